/- Contracts: marks in graphs. -/
import Derived.Test.YtcmoeocemmeofaaTHeldL
import Derived.Test.YtcmoeocemmeofaaSxD
set_option linter.unusedVariables false
set_option linter.unusedSimpArgs false
namespace Go.Proofs.Ytcmoeocemmeofaa
open Go.Ab
set_option maxRecDepth 100000
set_option maxHeartbeats 1000000
attribute [local irreducible] Res
theorem w_markPoseS (H : AHeap) (ms : List (List AV)) (hr : Recs KP ms) (S : AV) (hS : SlW H 3 ms S) (k : Int) (h0 : 0 ≤ k) (h1 : k ≤ 1152921504606846976) (hmax : ms.length ≤ 1048576) : ACalls Try.prog 24 [S, .int .i64 k] H fun r H' => r = .int .i64 (k + 3 * (ms.length : Int)) ∧ OnlyS S H H' ∧ SlW H' 3 (mksPose k ms.length) S := by
  cases hS with
  | @sl l n cap rest hg hn hc =>
    subst hn
    refine (k_markPoseS H ms hr l cap rest hg k h0 h1 hmax).mono ?_
    rintro r H' ⟨rfl, ho, row⟩
    exact ⟨rfl, .of_only ho, .sl row (mksPose_len _ _) hc⟩
  | nil h =>
    subst h
    refine res_start h_laws_markPoseS (by simp) ?_
    refine run_mn (φ := φ0) (pm := pmR 0 [] 2) 20 (nk := [(.atom 0, .int .i64)]) (fs := []) (xs := [.int .i64 k]) (ws := []) (env := [(0, .lit .nilslice), (1, .nd 0 (.int .i64))]) ?_ ?_ tb_ok ap_ok ?_
    · refine midN_in ?_ .nil _ ?_ ?_ ?_
      · exact (.cons rfl ⟨_, rfl⟩ .nil)
      · exact .nil
      · exact sepOk_ro rfl
      · exact .nil
    · exact (envEq rfl (dLit rfl) (envEq rfl (dNd rfl ⟨_, rfl⟩) envNil))
    refine all1 (by kernel_rfl) ?_
    intro vs ls H9 E9 st hE
    have g9 : Grew H H9 := (st.kept.grew (Nat.le_of_ble_eq_true (by kernel_rfl)))
    exact res_ex (by kernel_rfl) (end_same st.inn hE (.inr rfl) (a := .int .i64 k) (by kernel_rfl) g9.next ⟨by simp, .of_grew g9, .nil rfl⟩)
theorem w_markLinkS (H : AHeap) (ms : List (List AV)) (hr : Recs KL ms) (S : AV) (hS : SlW H 6 ms S) (k : Int) (h0 : 0 ≤ k) (h1 : k ≤ 1152921504606846976) (hmax : ms.length ≤ 1048576) : ACalls Try.prog 74 [S, .int .i64 k] H fun r H' => r = .int .i64 (k + 6 * (ms.length : Int)) ∧ OnlyS S H H' ∧ SlW H' 6 (mksLink k ms.length) S := by
  cases hS with
  | @sl l n cap rest hg hn hc =>
    subst hn
    refine (k_markLinkS H ms hr l cap rest hg k h0 h1 hmax).mono ?_
    rintro r H' ⟨rfl, ho, row⟩
    exact ⟨rfl, .of_only ho, .sl row (mksLink_len _ _) hc⟩
  | nil h =>
    subst h
    refine res_start h_laws_markLinkS (by simp) ?_
    refine run_mn (φ := φ0) (pm := pmR 0 [] 2) 20 (nk := [(.atom 0, .int .i64)]) (fs := []) (xs := [.int .i64 k]) (ws := []) (env := [(0, .lit .nilslice), (1, .nd 0 (.int .i64))]) ?_ ?_ tb_ok ap_ok ?_
    · refine midN_in ?_ .nil _ ?_ ?_ ?_
      · exact (.cons rfl ⟨_, rfl⟩ .nil)
      · exact .nil
      · exact sepOk_ro rfl
      · exact .nil
    · exact (envEq rfl (dLit rfl) (envEq rfl (dNd rfl ⟨_, rfl⟩) envNil))
    refine all1 (by kernel_rfl) ?_
    intro vs ls H9 E9 st hE
    have g9 : Grew H H9 := (st.kept.grew (Nat.le_of_ble_eq_true (by kernel_rfl)))
    exact res_ex (by kernel_rfl) (end_same st.inn hE (.inr rfl) (a := .int .i64 k) (by kernel_rfl) g9.next ⟨by simp, .of_grew g9, .nil rfl⟩)
theorem w_markPoseGraph (H : AHeap) (ms : List (List AV)) (hr : Recs KP ms) (S : AV) (hS : SlW H 3 ms S) (hmax : ms.length ≤ 1048576) (ks : List (List AV)) (hrk : Recs KL ks) (Sk : AV) (hSk : SlW H 6 ks Sk) (hmaxk : ks.length ≤ 1048576) (hap : ApartS S Sk) (k : Int) (h0 : 0 ≤ k) (h1 : k ≤ 576460752303423488) : ACalls Try.prog 38 [.agg [S, Sk], .int .i64 k] H fun r H' => r = .int .i64 (k + 3 * (ms.length : Int) + 6 * (ks.length : Int)) ∧ Only2 S Sk H H' ∧ SlW H' 3 (mksPose k ms.length) S ∧ SlW H' 6 (mksLink (k + 3 * (ms.length : Int)) ks.length) Sk := by
  refine res_start h_laws_markPoseGraph (by simp) ?_
  refine run_mn (φ := φ0) (pm := pmR 0 [] 0) 20 (nk := [(.atom 0, .one), (.atom 1, .one), (.atom 2, .int .i64)]) (fs := []) (xs := [S, Sk, .int .i64 k]) (ws := []) (env := [(0, .agg [.nd 0 .one, .nd 1 .one]), (1, .nd 2 (.int .i64))]) ?_ ?_ tb_ok ap_ok ?_
  · refine midN_in ?_ .nil _ ?_ ?_ ?_
    · exact (.cons rfl hS.one (.cons rfl hSk.one (.cons rfl ⟨_, rfl⟩ .nil)))
    · exact .nil
    · exact sepOk_ro rfl
    · exact .nil
  · exact (envEq rfl (dAgg (dlCons (dNd rfl hS.one) (dlCons (dNd rfl hSk.one) dlNil))) (envEq rfl (dNd rfl ⟨_, rfl⟩) envNil))
  refine all1 (by kernel_rfl) ?_
  intro vs ls H1 E1 st hE
  obtain ⟨p2, e3, r4, n5⟩ := ptr_of st.inn hE 2 0 (by kernel_rfl) (ds := [S, Sk]) (by kernel_rfl)
  have op2 : H.next ≤ p2 := Nat.le_trans (Nat.le_refl _) (n5 (Nat.le_of_ble_eq_true rfl))
  have ne6 : ApartL (S) p2 := hS.apart_new (n5 (Nat.le_of_ble_eq_true rfl))
  have ne7 : ApartL (Sk) p2 := hSk.apart_new (n5 (Nat.le_of_ble_eq_true rfl))
  have b8 : E1 6 = S := env_of st.inn hE 6 (by kernel_rfl)
  have b9 : E1 7 = .int .i64 k := env_of st.inn hE 7 (by kernel_rfl)
  have b10 : E1 1 = .int .i64 k := env_of st.inn hE 1 (by kernel_rfl)
  have g11 : Grew H H1 := (st.kept.grew (Nat.le_of_ble_eq_true (by kernel_rfl)))
  have g12 : Grew H H1 := Grew.trans (Grew.refl _) g11
  have s13 := hS.grew g11
  have s14 := hSk.grew g11
  clear st hE vs ls
  refine res_call (d := (some 8)) (f := 24) (args := [.tmp 6, .tmp 7]) (by kernel_rfl) (R := fun z H' => z = .int .i64 (k + 3 * (ms.length : Int)) ∧ OnlyS S H1 H' ∧ SlW H' 3 (mksPose k ms.length) S) ?_ ?_
  · show ACalls _ _ [E1 6, E1 7] _ _
    rw [b8, b9]
    exact w_markPoseS H1 ms hr S s13 k h0 (by omega) hmax
  rintro z H15 ⟨rfl, ooH15, nnH15⟩
  have oz : OnlyS S H H15 := OnlyS.grewL g12 ooH15
  have r16 := ooH15.at r4 (by assumption)
  have sk2 := s14.only ooH15 (ApartS.symm hap)
  refine run_mn (φ := φ0) (pm := pmR 1 [] 0) 20 (nk := [(.atom 0, .one), (.atom 1, .one), (.atom 2, .int .i64), (.atom 3, .int .i64)]) (fs := []) (xs := [S, Sk, .int .i64 k, .int .i64 (k + 3 * (ms.length : Int))]) (ws := [⟨p2, 0, [.nd 0 .one, .nd 1 .one], false⟩]) (env := [(6, .nd 0 .one), (7, .nd 2 (.int .i64)), (2, .ptr 0 0), (1, .nd 2 (.int .i64)), (8, .nd 3 (.int .i64))]) ?_ ?_ tb_ok ap_ok ?_
  · refine midN_in ?_ .nil _ ?_ ?_ ?_
    · exact (.cons rfl hS.one (.cons rfl hSk.one (.cons rfl ⟨_, rfl⟩ (.cons rfl ⟨_, rfl⟩ .nil))))
    · exact (.cons (win_row r16 (dlCons (dNd rfl hS.one) (dlCons (dNd rfl hSk.one) dlNil))) .nil)
    · exact sepOk_ro rfl
    · exact .nil
  · exact (envEq (put_ne rfl b8) (dNd rfl hS.one) (envEq (put_ne rfl b9) (dNd rfl ⟨_, rfl⟩) (envEq (put_ne rfl e3) (dPtr (l := p2) (o := 0) rfl) (envEq (put_ne rfl b10) (dNd rfl ⟨_, rfl⟩) (envEq put_same (dNd rfl ⟨_, rfl⟩) envNil)))))
  refine all1 (by kernel_rfl) ?_
  intro vs ls H17 E17 st hE
  have b18 : E17 10 = Sk := env_of st.inn hE 10 (by kernel_rfl)
  have b19 : E17 11 = .int .i64 (k + 3 * (ms.length : Int)) := env_of st.inn hE 11 (by kernel_rfl)
  have b20 : E17 1 = .int .i64 (k + 3 * (ms.length : Int)) := env_of st.inn hE 1 (by kernel_rfl)
  have g21 : Grew H15 H17 := (st.kept.grew (Nat.le_of_ble_eq_true (by kernel_rfl)))
  have g22 : OnlyS S H H17 := oz.grewR g21
  have r23 := g21.at r16
  have s24 := nnH15.grew g21
  have s25 := sk2.grew g21
  clear st hE vs ls
  refine res_call (d := (some 12)) (f := 74) (args := [.tmp 10, .tmp 11]) (by kernel_rfl) (R := fun z H' => z = .int .i64 (k + 3 * (ms.length : Int) + 6 * (ks.length : Int)) ∧ OnlyS Sk H17 H' ∧ SlW H' 6 (mksLink (k + 3 * (ms.length : Int)) ks.length) Sk) ?_ ?_
  · show ACalls _ _ [E17 10, E17 11] _ _
    rw [b18, b19]
    exact w_markLinkS H17 ks hrk Sk s25 (k + 3 * (ms.length : Int)) (by omega) (by omega) hmaxk
  rintro z H26 ⟨rfl, ooH26, nnH26⟩
  have oz2 : Only2 S Sk H H26 := Only2.of g22 ooH26
  have s2 := s24.only ooH26 hap
  refine run_mn (φ := φ0) (pm := pmR 0 [] 0) 20 (nk := [(.atom 0, .one), (.atom 1, .one), (.atom 2, .int .i64), (.atom 3, .int .i64), (.atom 4, .int .i64)]) (fs := []) (xs := [S, Sk, .int .i64 k, .int .i64 (k + 3 * (ms.length : Int)), .int .i64 (k + 3 * (ms.length : Int) + 6 * (ks.length : Int))]) (ws := []) (env := [(10, .nd 1 .one), (11, .nd 3 (.int .i64)), (1, .nd 3 (.int .i64)), (12, .nd 4 (.int .i64))]) ?_ ?_ tb_ok ap_ok ?_
  · refine midN_in ?_ .nil _ ?_ ?_ ?_
    · exact (.cons rfl hS.one (.cons rfl hSk.one (.cons rfl ⟨_, rfl⟩ (.cons rfl ⟨_, rfl⟩ (.cons rfl ⟨_, rfl⟩ .nil)))))
    · exact .nil
    · exact sepOk_ro rfl
    · exact .nil
  · exact (envEq (put_ne rfl b18) (dNd rfl hSk.one) (envEq (put_ne rfl b19) (dNd rfl ⟨_, rfl⟩) (envEq (put_ne rfl b20) (dNd rfl ⟨_, rfl⟩) (envEq put_same (dNd rfl ⟨_, rfl⟩) envNil))))
  refine all1 (by kernel_rfl) ?_
  intro vs ls H27 E27 st hE
  have g9 : Grew H26 H27 := (st.kept.grew (Nat.le_of_ble_eq_true (by kernel_rfl)))
  exact res_ex (by kernel_rfl) (end_same st.inn hE (.inr rfl) (a := .int .i64 (k + 3 * (ms.length : Int) + 6 * (ks.length : Int))) (by kernel_rfl) (Nat.le_trans oz2.next g9.next) ⟨rfl, oz2.grewR g9, s2.grew g9, nnH26.grew g9⟩)
theorem w_heldPoseGraph (H : AHeap) (k : Int) (n m : Nat) (S Sk : AV) (hS : SlL H 3 (mksPose k n) S) (hSk : SlL H 6 (mksLink (k + 3 * (n : Int)) m) Sk) (h0 : 0 ≤ k) (h1 : k ≤ 576460752303423488) (hn : n ≤ 1048576) (hm : m ≤ 1048576) : APure Try.prog 39 [.agg [S, Sk], .int .i64 k] H (.int .i64 (k + 3 * (n : Int) + 6 * (m : Int))) := by
  refine res_start h_laws_heldPoseGraph (by simp) ?_
  refine run_mn (φ := φ0) (pm := pmR 0 [(.call 25 [.nd 0 .one, .nd 2 (.int .i64)], .nd 3 (.int .i64)), (.call 75 [.nd 1 .one, .nd 3 (.int .i64)], .nd 4 (.int .i64))] 0) 20 (nk := [(.atom 0, .one), (.atom 1, .one), (.atom 2, .int .i64), (.atom 3, .int .i64), (.atom 4, .int .i64)]) (fs := []) (xs := [S, Sk, .int .i64 k, .int .i64 (k + 3 * (n : Int)), .int .i64 (k + 3 * (n : Int) + 6 * (m : Int))]) (ws := []) (env := [(0, .agg [.nd 0 .one, .nd 1 .one]), (1, .nd 2 (.int .i64))]) ?_ ?_ tb_ok ap_ok ?_
  · refine midN_in ?_ .nil _ ?_ ?_ ?_
    · exact (.cons rfl (slOne hS) (.cons rfl (slOne hSk) (.cons rfl ⟨_, rfl⟩ (.cons rfl ⟨_, rfl⟩ (.cons rfl ⟨_, rfl⟩ .nil)))))
    · exact .nil
    · exact sepOk_ro rfl
    · exact (.cons (rule_call (args := [S, .int .i64 k]) (dlCons (dNd rfl (slOne hS)) (dlCons (dNd rfl ⟨_, rfl⟩) dlNil)) (dNd rfl ⟨_, rfl⟩) (fun H9 hk => k_heldPoseS H9 k n S (hS.grew (Grew.trans (Grew.refl _) (hk.grew (Nat.le_refl _)))) h0 (by omega) hn)) (.cons (rule_call (args := [Sk, .int .i64 (k + 3 * (n : Int))]) (dlCons (dNd rfl (slOne hSk)) (dlCons (dNd rfl ⟨_, rfl⟩) dlNil)) (dNd rfl ⟨_, rfl⟩) (fun H9 hk => k_heldLinkS H9 (k + 3 * (n : Int)) m Sk (hSk.grew (Grew.trans (Grew.refl _) (hk.grew (Nat.le_refl _)))) (by omega) (by omega) hm)) .nil))
  · exact (envEq rfl (dAgg (dlCons (dNd rfl (slOne hS)) (dlCons (dNd rfl (slOne hSk)) dlNil))) (envEq rfl (dNd rfl ⟨_, rfl⟩) envNil))
  refine all3 (by kernel_rfl) ?_ ?_ ?_
  ·
    intro vs ls H1 E1 st hE
    have f2 : (k + 3 * (n : Int)) < 0 := of_decide_eq_true (bfact (x := decide ((k + 3 * (n : Int)) < 0)) st.inn 0 (by kernel_rfl))
    exact absurd f2 (by omega)
  ·
    intro vs ls H3 E3 st hE
    have f4 : (k + 3 * (n : Int) + 6 * (m : Int)) < 0 := of_decide_eq_true (bfact (x := decide ((k + 3 * (n : Int) + 6 * (m : Int)) < 0)) st.inn 0 (by kernel_rfl))
    have f5 : ¬ ((k + 3 * (n : Int)) < 0) := of_decide_eq_false (bfact (x := decide ((k + 3 * (n : Int)) < 0)) st.inn 1 (by kernel_rfl))
    exact absurd f4 (by omega)
  ·
    intro vs ls H6 E6 st hE
    have f7 : ¬ ((k + 3 * (n : Int) + 6 * (m : Int)) < 0) := of_decide_eq_false (bfact (x := decide ((k + 3 * (n : Int) + 6 * (m : Int)) < 0)) st.inn 0 (by kernel_rfl))
    have f8 : ¬ ((k + 3 * (n : Int)) < 0) := of_decide_eq_false (bfact (x := decide ((k + 3 * (n : Int)) < 0)) st.inn 1 (by kernel_rfl))
    refine res_ex (by kernel_rfl) (end_flat st.inn hE (.inr rfl) (a := .int .i64 (k + 3 * (n : Int) + 6 * (m : Int))) (by kernel_rfl) (Grew.trans (Grew.refl _) (st.kept.grew (Nat.le_of_ble_eq_true (by kernel_rfl)))) rfl ⟨?_, rfl⟩)
    rfl
end Go.Proofs.Ytcmoeocemmeofaa
