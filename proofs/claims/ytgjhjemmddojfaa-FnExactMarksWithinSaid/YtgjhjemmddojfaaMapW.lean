/- Contracts of the law's words for maps: copies in new memory, marks. -/
import Derived.Test.YtgjhjemmddojfaaHeld
import Derived.Test.YtgjhjemmddojfaaSxD
set_option linter.unusedVariables false
set_option linter.unusedSimpArgs false
namespace Go.Proofs.Ytgjhjemmddojfaa
open Go.Ab
set_option maxRecDepth 100000
attribute [local irreducible] Res
theorem w_toLandMap (H : AHeap) (x : Option Nat) (hx : fOk .f32 x) (ms : List (List AV)) (hr : Recs KM ms) (S : AV) (hS : SlL H 9 ms S) (hmax : ms.length ≤ 1048576) : ACalls Try.prog 32 [.agg [.flt .f32 x, S]] H fun r H' => Grew H H' ∧ ∃ S', r = .agg [.flt .f32 x, S'] ∧ SlW H' 9 ms S' ∧ FreshS H.next S' := by
  refine (k_toLandMap H x hx ms hr S hS hmax).mono ?_
  rintro r H' ⟨g, l, hl, rfl, row⟩
  exact ⟨g, _, rfl, .sl (rest := []) (by simpa using row) rfl (Nat.le_refl _), .of_le hl⟩
theorem w_markMarkS (H : AHeap) (ms : List (List AV)) (hr : Recs KM ms) (S : AV) (hS : SlW H 9 ms S) (k : Int) (h0 : 0 ≤ k) (h1 : k ≤ 1152921504606846976) (hmax : ms.length ≤ 1048576) : ACalls Try.prog 49 [S, .int .i64 k] H fun r H' => r = .int .i64 (k + 9 * (ms.length : Int)) ∧ OnlyS S H H' ∧ SlW H' 9 (mksMark k ms.length) S := by
  cases hS with
  | @sl l n cap rest hg hn hc =>
    subst hn
    refine (k_markMarkS H ms hr l cap rest hg k h0 h1 hmax).mono ?_
    rintro r H' ⟨rfl, ho, row⟩
    exact ⟨rfl, .of_only ho, .sl row (mksMark_len _ _) hc⟩
  | nil h =>
    subst h
    refine res_start h_laws_markMarkS (by simp) ?_
    refine run_mn (φ := φ0) (pm := pmR 0 [] 2) 20 (nk := [(.atom 0, .int .i64)]) (fs := []) (xs := [.int .i64 k]) (ws := []) (env := [(0, .lit .nilslice), (1, .nd 0 (.int .i64))]) ?_ ?_ tb_ok ap_ok ?_
    · refine midN_in ?_ .nil _ ?_ ?_ ?_
      · exact (.cons rfl ⟨_, rfl⟩ .nil)
      · exact .nil
      · exact sepOk_ro rfl
      · exact .nil
    · exact (envEq rfl (dLit rfl) (envEq rfl (dNd rfl ⟨_, rfl⟩) envNil))
    refine all1 (by kernel_rfl) ?_
    intro vs ls H9 E9 st hE
    have g9 : Grew H H9 := (st.kept.grew (Nat.le_of_ble_eq_true (by kernel_rfl)))
    exact res_ex (by kernel_rfl) (end_same st.inn hE (.inr rfl) (a := .int .i64 k) (by kernel_rfl) g9.next ⟨by simp, .of_grew g9, .nil rfl⟩)
theorem w_markLandMap (H : AHeap) (x : Option Nat) (hx : fOk .f32 x) (ms : List (List AV)) (hr : Recs KM ms) (S : AV) (hS : SlW H 9 ms S) (k : Int) (h0 : 0 ≤ k) (h1 : k ≤ 1152921504606846976) (hmax : ms.length ≤ 1048576) : ACalls Try.prog 28 [.agg [.flt .f32 x, S], .int .i64 k] H fun r H' => r = .int .i64 (k + 9 * (ms.length : Int)) ∧ OnlyS S H H' ∧ SlW H' 9 (mksMark k ms.length) S := by
  refine res_start h_laws_markLandMap (by simp) ?_
  refine run_mn (φ := φ0) (pm := pmR 0 [] 0) 20 (nk := [(.atom 0, .flt .f32), (.atom 1, .one), (.atom 2, .int .i64)]) (fs := []) (xs := [.flt .f32 x, S, .int .i64 k]) (ws := []) (env := [(0, .agg [.nd 0 (.flt .f32), .nd 1 .one]), (1, .nd 2 (.int .i64))]) ?_ ?_ tb_ok ap_ok ?_
  · refine midN_in ?_ .nil _ ?_ ?_ ?_
    · exact (.cons rfl ⟨_, rfl, hx⟩ (.cons rfl hS.one (.cons rfl ⟨_, rfl⟩ .nil)))
    · exact .nil
    · exact sepOk_ro rfl
    · exact .nil
  · exact (envEq rfl (dAgg (dlCons (dNd rfl ⟨_, rfl, hx⟩) (dlCons (dNd rfl hS.one) dlNil))) (envEq rfl (dNd rfl ⟨_, rfl⟩) envNil))
  refine all1 (by kernel_rfl) ?_
  intro vs ls H1 E1 st hE
  have b2 : E1 6 = S := env_of st.inn hE 6 (by kernel_rfl)
  have b3 : E1 7 = .int .i64 k := env_of st.inn hE 7 (by kernel_rfl)
  have b4 : E1 1 = .int .i64 k := env_of st.inn hE 1 (by kernel_rfl)
  have g5 : Grew H H1 := (st.kept.grew (Nat.le_of_ble_eq_true (by kernel_rfl)))
  have g6 : Grew H H1 := Grew.trans (Grew.refl _) g5
  clear st hE vs ls
  refine res_call (d := (some 8)) (f := 49) (args := [.tmp 6, .tmp 7]) (by kernel_rfl) (R := fun z H' => z = .int .i64 (k + 9 * (ms.length : Int)) ∧ OnlyS S H1 H' ∧ SlW H' 9 (mksMark k ms.length) S) ?_ ?_
  · show ACalls _ _ [E1 6, E1 7] _ _
    rw [b2, b3]
    exact w_markMarkS H1 ms hr S (hS.grew g6) k h0 h1 hmax
  rintro z H7 ⟨rfl, oo, nn⟩
  have oz : OnlyS S H H7 := ⟨Nat.le_trans g6.next oo.next, fun l hl hn => (oo.get l (Nat.lt_of_lt_of_le hl g6.next) hn).trans (g6.get l hl)⟩
  refine run_mn (φ := φ0) (pm := pmR 0 [] 0) 20 (nk := [(.atom 0, .flt .f32), (.atom 1, .one), (.atom 2, .int .i64), (.atom 3, .int .i64)]) (fs := []) (xs := [.flt .f32 x, S, .int .i64 k, .int .i64 (k + 9 * (ms.length : Int))]) (ws := []) (env := [(6, .nd 1 .one), (7, .nd 2 (.int .i64)), (1, .nd 2 (.int .i64)), (8, .nd 3 (.int .i64))]) ?_ ?_ tb_ok ap_ok ?_
  · refine midN_in ?_ .nil _ ?_ ?_ ?_
    · exact (.cons rfl ⟨_, rfl, hx⟩ (.cons rfl hS.one (.cons rfl ⟨_, rfl⟩ (.cons rfl ⟨_, rfl⟩ .nil))))
    · exact .nil
    · exact sepOk_ro rfl
    · exact .nil
  · exact (envEq (put_ne rfl b2) (dNd rfl hS.one) (envEq (put_ne rfl b3) (dNd rfl ⟨_, rfl⟩) (envEq (put_ne rfl b4) (dNd rfl ⟨_, rfl⟩) (envEq put_same (dNd rfl ⟨_, rfl⟩) envNil))))
  refine all1 (by kernel_rfl) ?_
  intro vs ls H8 E8 st hE
  have g9 : Grew H7 H8 := (st.kept.grew (Nat.le_of_ble_eq_true (by kernel_rfl)))
  exact res_ex (by kernel_rfl) (end_same st.inn hE (.inr rfl) (a := .int .i64 (k + 9 * (ms.length : Int))) (by kernel_rfl) (Nat.le_trans oz.next g9.next) ⟨rfl, ⟨Nat.le_trans oz.next g9.next, fun l hl hn => (g9.get l (Nat.lt_of_lt_of_le hl oz.next)).trans (oz.get l hl hn)⟩, nn.grew g9⟩)
theorem w_heldLandMap (H : AHeap) (x : Option Nat) (hx : fOk .f32 x) (k : Int) (n : Nat) (S : AV) (hS : SlL H 9 (mksMark k n) S) (h0 : 0 ≤ k) (h1 : k ≤ 1152921504606846976) (hmax : n ≤ 1048576) : APure Try.prog 29 [.agg [.flt .f32 x, S], .int .i64 k] H (.int .i64 (k + 9 * (n : Int))) := by
  refine res_start h_laws_heldLandMap (by simp) ?_
  refine run_mn (φ := φ0) (pm := pmR 0 [(.call 50 [.nd 1 .one, .nd 2 (.int .i64)], .nd 3 (.int .i64))] 0) 20 (nk := [(.atom 0, .flt .f32), (.atom 1, .one), (.atom 2, .int .i64), (.atom 3, .int .i64)]) (fs := []) (xs := [.flt .f32 x, S, .int .i64 k, .int .i64 (k + 9 * (n : Int))]) (ws := []) (env := [(0, .agg [.nd 0 (.flt .f32), .nd 1 .one]), (1, .nd 2 (.int .i64))]) ?_ ?_ tb_ok ap_ok ?_
  · refine midN_in ?_ .nil _ ?_ ?_ ?_
    · exact (.cons rfl ⟨_, rfl, hx⟩ (.cons rfl (slOne hS) (.cons rfl ⟨_, rfl⟩ (.cons rfl ⟨_, rfl⟩ .nil))))
    · exact .nil
    · exact sepOk_ro rfl
    · exact (.cons (rule_call (args := [S, .int .i64 k]) (dlCons (dNd rfl (slOne hS)) (dlCons (dNd rfl ⟨_, rfl⟩) dlNil)) (dNd rfl ⟨_, rfl⟩) (fun H9 hk => k_heldMarkS H9 k n S (hS.grew (Grew.trans (Grew.refl _) (hk.grew (Nat.le_refl _)))) h0 h1 hmax)) .nil)
  · exact (envEq rfl (dAgg (dlCons (dNd rfl ⟨_, rfl, hx⟩) (dlCons (dNd rfl (slOne hS)) dlNil))) (envEq rfl (dNd rfl ⟨_, rfl⟩) envNil))
  refine all2 (by kernel_rfl) ?_ ?_
  ·
    intro vs ls H1 E1 st hE
    have f2 : (k + 9 * (n : Int)) < 0 := of_decide_eq_true (bfact (x := decide ((k + 9 * (n : Int)) < 0)) st.inn 0 (by kernel_rfl))
    exact absurd f2 (by omega)
  ·
    intro vs ls H3 E3 st hE
    have f4 : ¬ ((k + 9 * (n : Int)) < 0) := of_decide_eq_false (bfact (x := decide ((k + 9 * (n : Int)) < 0)) st.inn 0 (by kernel_rfl))
    refine res_ex (by kernel_rfl) (end_flat st.inn hE (.inr rfl) (a := .int .i64 (k + 9 * (n : Int))) (by kernel_rfl) (Grew.trans (Grew.refl _) (st.kept.grew (Nat.le_of_ble_eq_true (by kernel_rfl)))) rfl ⟨?_, rfl⟩)
    rfl
end Go.Proofs.Ytgjhjemmddojfaa
