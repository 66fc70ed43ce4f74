/- Contracts: marks in graphs. -/
import Derived.Test.YtcmoeocemmeofaaTHeldL
import Derived.Test.YtcmoeocemmeofaaSxD
set_option linter.unusedVariables false
set_option linter.unusedSimpArgs false
namespace Go.Proofs.Ytcmoeocemmeofaa
open Go.Ab
set_option maxRecDepth 100000
set_option maxHeartbeats 1000000
attribute [local irreducible] Res
theorem w_markPoseS (H : AHeap) (ms : List (List AV)) (hr : Recs KP ms) (S : AV) (hS : SlW H 3 ms S) (k : Int) (h0 : 0 ≤ k) (h1 : k ≤ 1152921504606846976) (hmax : ms.length ≤ 1048576) : ACalls Try.prog 24 [S, .int .i64 k] H fun r H' => r = .int .i64 (k + 3 * (ms.length : Int)) ∧ OnlyS S H H' ∧ SlW H' 3 (mksPose k ms.length) S := by
 cases hS with
 | @sl l n cap rest hg hn hc =>
  subst hn
  refine (k_markPoseS H ms hr l cap rest hg k h0 h1 hmax).mono ?_
  rintro r H' ⟨rfl, ho, row⟩
  exact ⟨rfl, .of_only ho, .sl row (mksPose_len _ _) hc⟩
 | nil h =>
  subst h
  refine res_start h_laws_markPoseS (by simp) ?_
  have q1 : KdsL [KI] [.int .i64 k] := .cons ⟨_, rfl⟩ .nil
  refine run_mc (φ := φ0) (pm := pmR 0 [] 2) 20 (ws := []) (env := [(0, .lit .nilslice), (1, nI 0)]) q1 .nil (sepOk_ro rfl) .nil (eC q1 (.cons (t := 0) rfl (.cons (t := 1) rfl .nil))) tb_ok ap_ok ?_
  refine all1 (by kernel_rfl) ?_
  intro vs ls H9 E9 st hE
  have g9 : Grew H H9 := (gk st)
  exact res_ex (by kernel_rfl) (end_same st.inn hE (.inr rfl) (a := .int .i64 k) (by kernel_rfl) g9.next ⟨by simp, .of_grew g9, .nil rfl⟩)
theorem w_markLinkS (H : AHeap) (ms : List (List AV)) (hr : Recs KL ms) (S : AV) (hS : SlW H 6 ms S) (k : Int) (h0 : 0 ≤ k) (h1 : k ≤ 1152921504606846976) (hmax : ms.length ≤ 1048576) : ACalls Try.prog 74 [S, .int .i64 k] H fun r H' => r = .int .i64 (k + 6 * (ms.length : Int)) ∧ OnlyS S H H' ∧ SlW H' 6 (mksLink k ms.length) S := by
 cases hS with
 | @sl l n cap rest hg hn hc =>
  subst hn
  refine (k_markLinkS H ms hr l cap rest hg k h0 h1 hmax).mono ?_
  rintro r H' ⟨rfl, ho, row⟩
  exact ⟨rfl, .of_only ho, .sl row (mksLink_len _ _) hc⟩
 | nil h =>
  subst h
  refine res_start h_laws_markLinkS (by simp) ?_
  have q1 : KdsL [KI] [.int .i64 k] := .cons ⟨_, rfl⟩ .nil
  refine run_mc (φ := φ0) (pm := pmR 0 [] 2) 20 (ws := []) (env := [(0, .lit .nilslice), (1, nI 0)]) q1 .nil (sepOk_ro rfl) .nil (eC q1 (.cons (t := 0) rfl (.cons (t := 1) rfl .nil))) tb_ok ap_ok ?_
  refine all1 (by kernel_rfl) ?_
  intro vs ls H9 E9 st hE
  have g9 : Grew H H9 := (gk st)
  exact res_ex (by kernel_rfl) (end_same st.inn hE (.inr rfl) (a := .int .i64 k) (by kernel_rfl) g9.next ⟨by simp, .of_grew g9, .nil rfl⟩)
theorem w_markPoseGraph (H : AHeap) (ms : List (List AV)) (hr : Recs KP ms) (S : AV) (hS : SlW H 3 ms S) (hmax : ms.length ≤ 1048576) (ks : List (List AV)) (hrk : Recs KL ks) (Sk : AV) (hSk : SlW H 6 ks Sk) (hmaxk : ks.length ≤ 1048576) (hap : ApartS S Sk) (k : Int) (h0 : 0 ≤ k) (h1 : k ≤ 576460752303423488) : ACalls Try.prog 38 [.agg [S, Sk], .int .i64 k] H fun r H' => r = .int .i64 (k + 3 * (ms.length : Int) + 6 * (ks.length : Int)) ∧ Only2 S Sk H H' ∧ SlW H' 3 (mksPose k ms.length) S ∧ SlW H' 6 (mksLink (k + 3 * (ms.length : Int)) ks.length) Sk := by
 refine res_start h_laws_markPoseGraph (by simp) ?_
 have q1 : KdsL [.one, .one, KI] [S, Sk, .int .i64 k] := .cons hS.one (.cons hSk.one (.cons ⟨_, rfl⟩ .nil))
 refine run_mc (φ := φ0) (pm := pmR 0 [] 0) 20 (ws := []) (env := [(0, .agg [n1 0, n1 1]), (1, nI 2)]) q1 .nil (sepOk_ro rfl) .nil (eC q1 (.cons (t := 0) rfl (.cons (t := 1) rfl .nil))) tb_ok ap_ok ?_
 refine all1 (by kernel_rfl) ?_
 intro vs ls H2 E2 st hE
 obtain ⟨p3, e4, r5, n6⟩ := ptr_of st.inn hE 2 0 (by kernel_rfl) (ds := [S, Sk]) (by kernel_rfl)
 have op3 : H.next ≤ p3 := Nat.le_trans (Nat.le_refl _) (n6 (Nat.le_of_ble_eq_true rfl))
 have ne7 : ApartL (S) p3 := hS.apart_new (n6 (Nat.le_of_ble_eq_true rfl))
 have ne8 : ApartL (Sk) p3 := hSk.apart_new (n6 (Nat.le_of_ble_eq_true rfl))
 have b9 := eo st hE 6 S
 have b10 := eo st hE 7 (.int .i64 k)
 have b11 := eo st hE 1 (.int .i64 k)
 have g12 : Grew H H2 := (gk st)
 have g13 : Grew H H2 := Grew.trans (Grew.refl _) g12
 have s14 := hS.grew g12
 have s15 := hSk.grew g12
 clear st hE vs ls
 refine res_call (d := (some 8)) (f := 24) (args := [.tmp 6, .tmp 7]) (by kernel_rfl) (R := fun z H' => z = .int .i64 (k + 3 * (ms.length : Int)) ∧ OnlyS S H2 H' ∧ SlW H' 3 (mksPose k ms.length) S) ?_ ?_
 ·
  show ACalls _ _ [E2 6, E2 7] _ _
  rw [b9, b10]
  exact w_markPoseS H2 ms hr S s14 k h0 (by omega) hmax
 rintro z H16 ⟨rfl, ooH16, nnH16⟩
 have oz : OnlyS S H H16 := OnlyS.grewL g13 ooH16
 have r17 := ooH16.at r5 (by assumption)
 have sk2 := s15.only ooH16 (ApartS.symm hap)
 have q18 := q1.app (.cons ⟨_, rfl⟩ .nil : KdsL [KI] [.int .i64 (k + 3 * (ms.length : Int))])
 refine run_mc (φ := φ0) (pm := pmR 1 [] 0) 20 (ws := [⟨p3, 0, [n1 0, n1 1], false⟩]) (env := [(6, n1 0), (7, nI 2), (2, .ptr 0 0), (1, nI 2), (8, nI 3)]) q18 (.cons (wR r17 q18) .nil) (sepOk_ro rfl) .nil (eC q18 (.cons (put_ne rfl b9) (.cons (put_ne rfl b10) (.cons (put_ne rfl e4) (.cons (put_ne rfl b11) (.cons put_same .nil)))))) tb_ok ap_ok ?_
 refine all1 (by kernel_rfl) ?_
 intro vs ls H19 E19 st hE
 have b20 := eo st hE 10 Sk
 have b21 := eo st hE 11 (.int .i64 (k + 3 * (ms.length : Int)))
 have b22 := eo st hE 1 (.int .i64 (k + 3 * (ms.length : Int)))
 have g23 : Grew H16 H19 := (gk st)
 have g24 : OnlyS S H H19 := oz.grewR g23
 have s26 := nnH16.grew g23
 have s27 := sk2.grew g23
 clear st hE vs ls
 refine res_call (d := (some 12)) (f := 74) (args := [.tmp 10, .tmp 11]) (by kernel_rfl) (R := fun z H' => z = .int .i64 (k + 3 * (ms.length : Int) + 6 * (ks.length : Int)) ∧ OnlyS Sk H19 H' ∧ SlW H' 6 (mksLink (k + 3 * (ms.length : Int)) ks.length) Sk) ?_ ?_
 ·
  show ACalls _ _ [E19 10, E19 11] _ _
  rw [b20, b21]
  exact w_markLinkS H19 ks hrk Sk s27 (k + 3 * (ms.length : Int)) (by omega) (by omega) hmaxk
 rintro z H28 ⟨rfl, ooH28, nnH28⟩
 have oz2 : Only2 S Sk H H28 := Only2.of g24 ooH28
 have s2 := s26.only ooH28 hap
 have q29 := q18.app (.cons ⟨_, rfl⟩ .nil : KdsL [KI] [.int .i64 (k + 3 * (ms.length : Int) + 6 * (ks.length : Int))])
 refine run_mc (φ := φ0) (pm := pmR 0 [] 0) 20 (ws := []) (env := [(10, n1 1), (11, nI 3), (1, nI 3), (12, nI 4)]) q29 .nil (sepOk_ro rfl) .nil (eC q29 (.cons (put_ne rfl b20) (.cons (put_ne rfl b21) (.cons (put_ne rfl b22) (.cons put_same .nil))))) tb_ok ap_ok ?_
 refine all1 (by kernel_rfl) ?_
 intro vs ls H30 E30 st hE
 have g9 : Grew H28 H30 := (gk st)
 exact res_ex (by kernel_rfl) (end_same st.inn hE (.inr rfl) (a := .int .i64 (k + 3 * (ms.length : Int) + 6 * (ks.length : Int))) (by kernel_rfl) (Nat.le_trans oz2.next g9.next) ⟨rfl, oz2.grewR g9, s2.grew g9, nnH28.grew g9⟩)
theorem w_heldPoseGraph (H : AHeap) (k : Int) (n m : Nat) (S Sk : AV) (hS : SlL H 3 (mksPose k n) S) (hSk : SlL H 6 (mksLink (k + 3 * (n : Int)) m) Sk) (h0 : 0 ≤ k) (h1 : k ≤ 576460752303423488) (hn : n ≤ 1048576) (hm : m ≤ 1048576) : APure Try.prog 39 [.agg [S, Sk], .int .i64 k] H (.int .i64 (k + 3 * (n : Int) + 6 * (m : Int))) := by
 refine res_start h_laws_heldPoseGraph (by simp) ?_
 have q1 : KdsL [.one, .one, KI, KI, KI] [S, Sk, .int .i64 k, .int .i64 (k + 3 * (n : Int)), .int .i64 (k + 3 * (n : Int) + 6 * (m : Int))] := .cons (slOne hS) (.cons (slOne hSk) (.cons ⟨_, rfl⟩ (.cons ⟨_, rfl⟩ (.cons ⟨_, rfl⟩ .nil))))
 refine run_mc (φ := φ0) (pm := pmR 0 [(.call 25 [n1 0, nI 2], nI 3), (.call 75 [n1 1, nI 3], nI 4)] 0) 20 (ws := []) (env := [(0, .agg [n1 0, n1 1]), (1, nI 2)]) q1 .nil (sepOk_ro rfl) (.cons (rule_call (args := [S, .int .i64 k]) (r := .int .i64 (k + 3 * (n : Int))) (dL q1) (dE q1) (fun H9 hk => k_heldPoseS H9 k n S (hS.grew (Grew.trans (Grew.refl _) (hk.grew (Nat.le_refl _)))) h0 (by omega) hn)) (.cons (rule_call (args := [Sk, .int .i64 (k + 3 * (n : Int))]) (r := .int .i64 (k + 3 * (n : Int) + 6 * (m : Int))) (dL q1) (dE q1) (fun H9 hk => k_heldLinkS H9 (k + 3 * (n : Int)) m Sk (hSk.grew (Grew.trans (Grew.refl _) (hk.grew (Nat.le_refl _)))) (by omega) (by omega) hm)) .nil)) (eC q1 (.cons (t := 0) rfl (.cons (t := 1) rfl .nil))) tb_ok ap_ok ?_
 refine all3 (by kernel_rfl) ?_ ?_ ?_
 ·
  intro vs ls H2 E2 st hE
  have f3 : (k + 3 * (n : Int)) < 0 := dt st 0
  exact absurd f3 (by omega)
 ·
  intro vs ls H4 E4 st hE
  have f5 : (k + 3 * (n : Int) + 6 * (m : Int)) < 0 := dt st 0
  have f6 : ¬ ((k + 3 * (n : Int)) < 0) := df st 1
  exact absurd f5 (by omega)
 ·
  intro vs ls H7 E7 st hE
  have f8 : ¬ ((k + 3 * (n : Int) + 6 * (m : Int)) < 0) := df st 0
  have f9 : ¬ ((k + 3 * (n : Int)) < 0) := df st 1
  refine res_ex (by kernel_rfl) (end_flat st.inn hE (.inr rfl) (a := .int .i64 (k + 3 * (n : Int) + 6 * (m : Int))) (by kernel_rfl) (Grew.trans (Grew.refl _) (gk st)) rfl ⟨?_, rfl⟩)
  rfl
end Go.Proofs.Ytcmoeocemmeofaa
