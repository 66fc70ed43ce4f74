/- Contracts: copies of lists, graphs; a link more. -/
import Derived.Test.YtcmoeocemmeofaaTGraphF
import Derived.Test.YtcmoeocemmeofaaSxD
set_option linter.unusedVariables false
set_option linter.unusedSimpArgs false
namespace Go.Proofs.Ytcmoeocemmeofaa
open Go.Ab
set_option maxRecDepth 100000
set_option maxHeartbeats 1000000
attribute [local irreducible] Res
theorem k_CloneP (H : AHeap) (ms : List (List AV)) (hr : Recs KP ms) (S : AV) (hS : SlL H 3 ms S) (mxms : ms.length ≤ 1048576) : ACalls Try.prog 105 [S] H fun r H' => Grew H H' ∧ SlF H' 3 ms r ∧ FreshS H.next r := by
  cases hS with
  | nil h0 =>
    refine res_start h_slices_Clone_impl_Pose_impl_Pose (by simp) ?_
    refine run_mn (φ := φ0) (pm := pmR 0 [] 0) 20 (nk := []) (fs := []) (xs := []) (ws := []) (env := [(0, .lit .nilslice)]) ?_ ?_ tb_ok ap_ok ?_
    · refine midN_in ?_ .nil _ ?_ ?_ ?_
      · exact .nil
      · exact .nil
      · exact sepOk_ro rfl
      · exact .nil
    · exact (envEq rfl (dLit rfl) envNil)
    refine all1 (by kernel_rfl) ?_
    intro vs ls H1 E1 st hE
    have gz : Grew H H1 := (Grew.trans (Grew.refl _) (st.kept.grew (Nat.le_of_ble_eq_true (by kernel_rfl))))
    exact res_ex (by kernel_rfl) (end_same st.inn hE (.inr rfl) (a := .nilslice) (by kernel_rfl) gz.next ⟨gz, .nil h0, .nil⟩)
  | @sl l n cap rest wr hg hn hc =>
    subst hn
    have hS : SlL H 3 ms (.slice l 0 ms.length cap 3) := .sl hg rfl hc
    refine res_start h_slices_Clone_impl_Pose_impl_Pose (by simp) ?_
    refine run_mn (φ := φ0) (pm := pmR 0 [(.nilS (.nd 0 .one), .lit (.bool false))] 0) 20 (nk := [(.atom 0, .one)]) (fs := []) (xs := [.slice l 0 ms.length cap 3]) (ws := []) (env := [(0, .nd 0 .one)]) ?_ ?_ tb_ok ap_ok ?_
    · refine midN_in ?_ .nil _ ?_ ?_ ?_
      · exact (.cons rfl rfl .nil)
      · exact .nil
      · exact sepOk_ro rfl
      · exact (.cons (⟨_, _, (dNd rfl rfl), dLit rfl, fun E get => by simp [aval, Opd.ev]⟩) .nil)
    · exact (envEq rfl (dNd rfl rfl) envNil)
    refine all1 (by kernel_rfl) ?_
    intro vs ls H1 E1 st hE
    obtain ⟨p2, e3, r4, n5⟩ := sl_of st.inn hE 5 0 0 0 3 (by kernel_rfl) (ds := []) (by kernel_rfl)
    have op2 : H.next ≤ p2 := Nat.le_trans (Nat.le_refl _) (n5 (Nat.le_of_ble_eq_true rfl))
    have b6 : E1 6 = .slice l 0 ms.length cap 3 := env_of st.inn hE 6 (by kernel_rfl)
    have g7 : Grew H H1 := (st.kept.grew (Nat.le_of_ble_eq_true (by kernel_rfl)))
    have g8 : Grew H H1 := Grew.trans (Grew.refl _) g7
    clear st hE vs ls
    have sx11 : SlF H1 3 [] (.slice p2 0 0 0 3) := .sl (by simpa using r4) rfl (Nat.le_refl _)
    refine res_append0 (d := (some 7)) (sz := 3) (bytes := 12) (x := .tmp 5) (y := .tmp 6) (by kernel_rfl) (S := .slice p2 0 0 0 3) (ys := ms) (by show E1 5 = _; exact e3) sx11 (.inr ⟨_, rfl⟩) (by show srcCells _ _ (E1 6) = _; rw [b6]; exact src_list hr.len (hS.grew g8)) (recs_one hr rfl) (by omega) ?_
    intro S9 H10 sS9 fS9 oS9
    have fr12 : FreshS H.next (S9) := fS9.fresh (FreshS.of_le op2) g8.next
    have g13 : Grew H H10 := Grew.trans g8 oS9
    have r14 := oS9.at r4
    refine run_mn (φ := φ0) (pm := pmR 0 [] 0) 20 (nk := [(.atom 0, .one), (.atom 1, .one)]) (fs := []) (xs := [.slice l 0 ms.length cap 3, S9]) (ws := []) (env := [(6, .nd 0 .one), (7, .nd 1 .one)]) ?_ ?_ tb_ok ap_ok ?_
    · refine midN_in ?_ .nil _ ?_ ?_ ?_
      · exact (.cons rfl rfl (.cons rfl sS9.one .nil))
      · exact .nil
      · exact sepOk_ro rfl
      · exact .nil
    · exact (envEq (put_ne rfl b6) (dNd rfl rfl) (envEq put_same (dNd rfl sS9.one) envNil))
    refine all1 (by kernel_rfl) ?_
    intro vs ls H15 E15 st hE
    have gz : Grew H H15 := (Grew.trans g13 (st.kept.grew (Nat.le_of_ble_eq_true (by kernel_rfl))))
    exact res_ex (by kernel_rfl) (end_same st.inn hE (.inr rfl) (a := S9) (by kernel_rfl) gz.next ⟨gz, (sS9.grew (st.inn.kept.grew (Nat.le_refl _))), fr12⟩)
theorem k_CloneL (H : AHeap) (ms : List (List AV)) (hr : Recs KL ms) (S : AV) (hS : SlL H 6 ms S) (mxms : ms.length ≤ 1048576) : ACalls Try.prog 106 [S] H fun r H' => Grew H H' ∧ SlF H' 6 ms r ∧ FreshS H.next r := by
  cases hS with
  | nil h0 =>
    refine res_start h_slices_Clone_impl_Link_impl_Link (by simp) ?_
    refine run_mn (φ := φ0) (pm := pmR 0 [] 0) 20 (nk := []) (fs := []) (xs := []) (ws := []) (env := [(0, .lit .nilslice)]) ?_ ?_ tb_ok ap_ok ?_
    · refine midN_in ?_ .nil _ ?_ ?_ ?_
      · exact .nil
      · exact .nil
      · exact sepOk_ro rfl
      · exact .nil
    · exact (envEq rfl (dLit rfl) envNil)
    refine all1 (by kernel_rfl) ?_
    intro vs ls H1 E1 st hE
    have gz : Grew H H1 := (Grew.trans (Grew.refl _) (st.kept.grew (Nat.le_of_ble_eq_true (by kernel_rfl))))
    exact res_ex (by kernel_rfl) (end_same st.inn hE (.inr rfl) (a := .nilslice) (by kernel_rfl) gz.next ⟨gz, .nil h0, .nil⟩)
  | @sl l n cap rest wr hg hn hc =>
    subst hn
    have hS : SlL H 6 ms (.slice l 0 ms.length cap 6) := .sl hg rfl hc
    refine res_start h_slices_Clone_impl_Link_impl_Link (by simp) ?_
    refine run_mn (φ := φ0) (pm := pmR 0 [(.nilS (.nd 0 .one), .lit (.bool false))] 0) 20 (nk := [(.atom 0, .one)]) (fs := []) (xs := [.slice l 0 ms.length cap 6]) (ws := []) (env := [(0, .nd 0 .one)]) ?_ ?_ tb_ok ap_ok ?_
    · refine midN_in ?_ .nil _ ?_ ?_ ?_
      · exact (.cons rfl rfl .nil)
      · exact .nil
      · exact sepOk_ro rfl
      · exact (.cons (⟨_, _, (dNd rfl rfl), dLit rfl, fun E get => by simp [aval, Opd.ev]⟩) .nil)
    · exact (envEq rfl (dNd rfl rfl) envNil)
    refine all1 (by kernel_rfl) ?_
    intro vs ls H1 E1 st hE
    obtain ⟨p2, e3, r4, n5⟩ := sl_of st.inn hE 5 0 0 0 6 (by kernel_rfl) (ds := []) (by kernel_rfl)
    have op2 : H.next ≤ p2 := Nat.le_trans (Nat.le_refl _) (n5 (Nat.le_of_ble_eq_true rfl))
    have b6 : E1 6 = .slice l 0 ms.length cap 6 := env_of st.inn hE 6 (by kernel_rfl)
    have g7 : Grew H H1 := (st.kept.grew (Nat.le_of_ble_eq_true (by kernel_rfl)))
    have g8 : Grew H H1 := Grew.trans (Grew.refl _) g7
    clear st hE vs ls
    have sx11 : SlF H1 6 [] (.slice p2 0 0 0 6) := .sl (by simpa using r4) rfl (Nat.le_refl _)
    refine res_append0 (d := (some 7)) (sz := 6) (bytes := 32) (x := .tmp 5) (y := .tmp 6) (by kernel_rfl) (S := .slice p2 0 0 0 6) (ys := ms) (by show E1 5 = _; exact e3) sx11 (.inr ⟨_, rfl⟩) (by show srcCells _ _ (E1 6) = _; rw [b6]; exact src_list hr.len (hS.grew g8)) (recs_one hr rfl) (by omega) ?_
    intro S9 H10 sS9 fS9 oS9
    have fr12 : FreshS H.next (S9) := fS9.fresh (FreshS.of_le op2) g8.next
    have g13 : Grew H H10 := Grew.trans g8 oS9
    have r14 := oS9.at r4
    refine run_mn (φ := φ0) (pm := pmR 0 [] 0) 20 (nk := [(.atom 0, .one), (.atom 1, .one)]) (fs := []) (xs := [.slice l 0 ms.length cap 6, S9]) (ws := []) (env := [(6, .nd 0 .one), (7, .nd 1 .one)]) ?_ ?_ tb_ok ap_ok ?_
    · refine midN_in ?_ .nil _ ?_ ?_ ?_
      · exact (.cons rfl rfl (.cons rfl sS9.one .nil))
      · exact .nil
      · exact sepOk_ro rfl
      · exact .nil
    · exact (envEq (put_ne rfl b6) (dNd rfl rfl) (envEq put_same (dNd rfl sS9.one) envNil))
    refine all1 (by kernel_rfl) ?_
    intro vs ls H15 E15 st hE
    have gz : Grew H H15 := (Grew.trans g13 (st.kept.grew (Nat.le_of_ble_eq_true (by kernel_rfl))))
    exact res_ex (by kernel_rfl) (end_same st.inn hE (.inr rfl) (a := S9) (by kernel_rfl) gz.next ⟨gz, (sS9.grew (st.inn.kept.grew (Nat.le_refl _))), fr12⟩)
theorem k_ownGraph (H : AHeap) (ms : List (List AV)) (hr : Recs KP ms) (S : AV) (hS : SlL H 3 ms S) (mxms : ms.length ≤ 1048576) (ks : List (List AV)) (hrk : Recs KL ks) (Sk : AV) (hSk : SlL H 6 ks Sk) (mxks : ks.length ≤ 1048576) : ACalls Try.prog 80 [.agg [S, Sk]] H fun r H' => Grew H H' ∧ ∃ S' Sk', r = .agg [S', Sk'] ∧ SlF H' 3 ms S' ∧ FreshS H.next S' ∧ SlF H' 6 ks Sk' ∧ FreshS H.next Sk' ∧ ApartS S' Sk' := by
  refine res_start h_impl_ownGraph (by simp) ?_
  refine run_mn (φ := φ0) (pm := pmR 0 [] 0) 20 (nk := [(.atom 0, .one), (.atom 1, .one)]) (fs := []) (xs := [S, Sk]) (ws := []) (env := [(0, .agg [.nd 0 .one, .nd 1 .one])]) ?_ ?_ tb_ok ap_ok ?_
  · refine midN_in ?_ .nil _ ?_ ?_ ?_
    · exact (.cons rfl (slOne hS) (.cons rfl (slOne hSk) .nil))
    · exact .nil
    · exact sepOk_ro rfl
    · exact .nil
  · exact (envEq rfl (dAgg (dlCons (dNd rfl (slOne hS)) (dlCons (dNd rfl (slOne hSk)) dlNil))) envNil)
  refine all1 (by kernel_rfl) ?_
  intro vs ls H1 E1 st hE
  obtain ⟨p2, e3, r4, n5⟩ := ptr_of st.inn hE 2 1 (by kernel_rfl) (ds := [.nilslice, .nilslice]) (by kernel_rfl)
  have op2 : H.next ≤ p2 := Nat.le_trans (Nat.le_refl _) (n5 (Nat.le_of_ble_eq_true rfl))
  have b6 : E1 4 = S := env_of st.inn hE 4 (by kernel_rfl)
  have b7 : E1 7 = Sk := env_of st.inn hE 7 (by kernel_rfl)
  have g8 : Grew H H1 := (st.kept.grew (Nat.le_of_ble_eq_true (by kernel_rfl)))
  have g9 : Grew H H1 := Grew.trans (Grew.refl _) g8
  clear st hE vs ls
  refine res_kid (free := false) (d := (some 5)) (f := 105) (args := [.tmp 4]) (by kernel_rfl) (R := fun z H' => Grew H1 H' ∧ SlF H' 3 ms z ∧ FreshS H1.next z) ?_ ?_
  · show ACalls _ _ [E1 4] _ _
    rw [b6]
    exact k_CloneP H1 ms hr (S) (hS.grew g9) mxms
  rintro S10 H11 ⟨gS10, sS10, fS10⟩
  refine ⟨gS10, ?_⟩
  have ne12 : ApartL (S10) p2 := fS10.apartL (H1.lt_of_get r4)
  have fr13 : FreshS H.next (S10) := fS10.mono g9.next
  have g14 : Grew H H11 := Grew.trans g9 gS10
  have r15 := gS10.at r4
  refine run_mn (φ := φ0) (pm := pmR 1 [] 0) 20 (nk := [(.atom 0, .one), (.atom 1, .one), (.atom 2, .one)]) (fs := []) (xs := [S, Sk, S10]) (ws := [⟨p2, 0, [.lit .nilslice, .lit .nilslice], false⟩]) (env := [(4, .nd 0 .one), (7, .nd 1 .one), (2, .ptr 0 0), (5, .nd 2 .one)]) ?_ ?_ tb_ok ap_ok ?_
  · refine midN_in ?_ .nil _ ?_ ?_ ?_
    · exact (.cons rfl (slOne hS) (.cons rfl (slOne hSk) (.cons rfl sS10.one .nil)))
    · exact (.cons (win_row r15 (dlCons (dLit rfl) (dlCons (dLit rfl) dlNil))) .nil)
    · exact sepOk_ro rfl
    · exact .nil
  · exact (envEq (put_ne rfl b6) (dNd rfl (slOne hS)) (envEq (put_ne rfl b7) (dNd rfl (slOne hSk)) (envEq (put_ne rfl e3) (dPtr (l := p2) (o := 0) rfl) (envEq put_same (dNd rfl sS10.one) envNil))))
  refine all1 (by kernel_rfl) ?_
  intro vs ls H16 E16 st hE
  have b17 : E16 7 = Sk := env_of st.inn hE 7 (by kernel_rfl)
  have b18 : E16 5 = S10 := env_of st.inn hE 5 (by kernel_rfl)
  have b19 : E16 2 = .ptr p2 0 := env_of st.inn hE 2 (by kernel_rfl)
  have g20 : Grew H11 H16 := (st.kept.grew (Nat.le_of_ble_eq_true (by kernel_rfl)))
  have g21 : Grew H H16 := Grew.trans g14 g20
  have r22 := g20.at r15
  have s23 := sS10.grew g20
  clear st hE vs ls
  refine res_kid (free := false) (d := (some 8)) (f := 106) (args := [.tmp 7]) (by kernel_rfl) (R := fun z H' => Grew H16 H' ∧ SlF H' 6 ks z ∧ FreshS H16.next z) ?_ ?_
  · show ACalls _ _ [E16 7] _ _
    rw [b17]
    exact k_CloneL H16 ks hrk (Sk) (hSk.grew g21) mxks
  rintro S24 H25 ⟨gS24, sS24, fS24⟩
  refine ⟨gS24, ?_⟩
  have ne26 : ApartL (S24) p2 := fS24.apartL (H16.lt_of_get r22)
  have ne27 : ApartS (S24) (S10) := fS24.apartS s23.lt
  have fr28 : FreshS H.next (S24) := fS24.mono g21.next
  have g29 : Grew H H25 := Grew.trans g21 gS24
  have r30 := gS24.at r22
  have s31 := s23.grew gS24
  refine run_mn (φ := φ0) (pm := pmR 0 [] 0) 20 (nk := [(.atom 0, .one), (.atom 1, .one), (.atom 2, .one), (.atom 3, .one)]) (fs := []) (xs := [S, Sk, S10, S24]) (ws := [⟨p2, 0, [.lit .nilslice, .lit .nilslice], true⟩]) (env := [(7, .nd 1 .one), (5, .nd 2 .one), (2, .ptr 0 0), (8, .nd 3 .one)]) ?_ ?_ tb_ok ap_ok ?_
  · refine midN_in ?_ .nil _ ?_ ?_ ?_
    · exact (.cons rfl (slOne hS) (.cons rfl (slOne hSk) (.cons rfl sS10.one (.cons rfl sS24.one .nil))))
    · exact (.cons (win_own r30 (dlCons (dLit rfl) (dlCons (dLit rfl) dlNil))) .nil)
    · exact ⟨(fun v hv => (by cases hv)), trivial⟩
    · exact .nil
  · exact (envEq (put_ne rfl b17) (dNd rfl (slOne hSk)) (envEq (put_ne rfl b18) (dNd rfl sS10.one) (envEq (put_ne rfl b19) (dPtr (l := p2) (o := 0) rfl) (envEq put_same (dNd rfl sS24.one) envNil))))
  refine all1 (by kernel_rfl) ?_
  intro vs ls H32 E32 st hE
  have gz : Grew H H32 := (grew_own g29 (st.inn.kept) ⟨op2, trivial⟩)
  exact res_ex (by kernel_rfl) (end_same st.inn hE (.inr rfl) (a := .agg [S10, S24]) (by kernel_rfl) gz.next ⟨gz, _, _, rfl, (s31.keep st.inn.kept ⟨by assumption, trivial⟩), fr13, (sS24.keep st.inn.kept ⟨by assumption, trivial⟩), fr28, by first | assumption | exact ApartS.symm (by assumption)⟩)
theorem k_l06Copy (H : AHeap) (l : Nat) (ms : List (List AV)) (hr : Recs KP ms) (S : AV) (hS : SlL H 3 ms S) (mxms : ms.length ≤ 1048576) (ks : List (List AV)) (hrk : Recs KL ks) (Sk : AV) (hSk : SlL H 6 ks Sk) (mxks : ks.length ≤ 1048576) (hg : H.get l = some (.row [S, Sk] true)) : ACalls Try.prog 78 [.ptr l 0] H fun r H' => Grew H H' ∧ ∃ S' Sk', r = .agg [S', Sk'] ∧ SlF H' 3 ms S' ∧ FreshS H.next S' ∧ SlF H' 6 ks Sk' ∧ FreshS H.next Sk' ∧ ApartS S' Sk' := by
  refine res_start h_spec_l06Copy (by simp) ?_
  refine run_mn (φ := φ0) (pm := pmR 1 [] 0) 20 (nk := [(.atom 0, .one), (.atom 1, .one)]) (fs := []) (xs := [S, Sk]) (ws := [⟨l, 0, [.nd 0 .one, .nd 1 .one], false⟩]) (env := [(0, .ptr 0 0)]) ?_ ?_ tb_ok ap_ok ?_
  · refine midN_in ?_ .nil _ ?_ ?_ ?_
    · exact (.cons rfl (slOne hS) (.cons rfl (slOne hSk) .nil))
    · exact (.cons (win_row hg (dlCons (dNd rfl (slOne hS)) (dlCons (dNd rfl (slOne hSk)) dlNil))) .nil)
    · exact sepOk_ro rfl
    · exact .nil
  · exact (envEq rfl (dPtr (l := l) (o := 0) rfl) envNil)
  refine all1 (by kernel_rfl) ?_
  intro vs ls H1 E1 st hE
  obtain ⟨p2, e3, r4, n5⟩ := ptr_of st.inn hE 2 1 (by kernel_rfl) (ds := [.nilslice, .nilslice]) (by kernel_rfl)
  have op2 : H.next ≤ p2 := Nat.le_trans (Nat.le_refl _) (n5 (Nat.le_of_ble_eq_true rfl))
  have ne6 : Apart p2 l := ⟨Nat.ne_of_gt (Nat.lt_of_lt_of_le (H.lt_of_get hg) (n5 (Nat.le_of_ble_eq_true rfl)))⟩
  have b7 : E1 7 = S := env_of st.inn hE 7 (by kernel_rfl)
  have b8 : E1 13 = Sk := env_of st.inn hE 13 (by kernel_rfl)
  have g9 : Grew H H1 := (st.kept.grew (Nat.le_of_ble_eq_true (by kernel_rfl)))
  have g10 : Grew H H1 := Grew.trans (Grew.refl _) g9
  have r11 := g9.at hg
  clear st hE vs ls
  refine res_kids2 (by kernel_rfl) ?_ ?_
  ·
    refine run_mn (φ := φ0) (pm := pmR 1 [] 0) 20 (nk := [(.atom 0, .one), (.atom 1, .one)]) (fs := []) (xs := [S, Sk]) (ws := [⟨p2, 0, [.lit .nilslice, .lit .nilslice], false⟩]) (env := [(7, .nd 0 .one), (13, .nd 1 .one), (2, .ptr 0 0)]) ?_ ?_ tb_ok ap_ok ?_
    · refine midN_in ?_ .nil _ ?_ ?_ ?_
      · exact (.cons rfl (slOne hS) (.cons rfl (slOne hSk) .nil))
      · exact (.cons (win_row r4 (dlCons (dLit rfl) (dlCons (dLit rfl) dlNil))) .nil)
      · exact sepOk_ro rfl
      · exact .nil
    · exact (envEq b7 (dNd rfl (slOne hS)) (envEq b8 (dNd rfl (slOne hSk)) (envEq e3 (dPtr (l := p2) (o := 0) rfl) envNil)))
    refine all1 (by kernel_rfl) ?_
    intro vs ls H12 E12 st hE
    obtain ⟨p13, e14, r15, n16⟩ := sl_of st.inn hE 3 1 0 0 3 (by kernel_rfl) (ds := []) (by kernel_rfl)
    have op13 : H.next ≤ p13 := Nat.le_trans g10.next (n16 (Nat.le_of_ble_eq_true rfl))
    have ne17 : Apart p13 p2 := ⟨Nat.ne_of_gt (Nat.lt_of_lt_of_le (H1.lt_of_get r4) (n16 (Nat.le_of_ble_eq_true rfl)))⟩
    have b18 : E12 7 = S := env_of st.inn hE 7 (by kernel_rfl)
    have b19 : E12 13 = Sk := env_of st.inn hE 13 (by kernel_rfl)
    have b20 : E12 2 = .ptr p2 0 := env_of st.inn hE 2 (by kernel_rfl)
    have g21 : Grew H1 H12 := (st.kept.grew (Nat.le_of_ble_eq_true (by kernel_rfl)))
    have g22 : Grew H H12 := Grew.trans g10 g21
    have r23 := g21.at r4
    clear st hE vs ls
    refine res_kids2 (by kernel_rfl) ?_ ?_
    ·
      refine run_mn (φ := φ0) (pm := pmR 2 [] 0) 20 (nk := [(.atom 0, .one), (.atom 1, .one)]) (fs := []) (xs := [S, Sk]) (ws := [⟨p2, 0, [.lit .nilslice, .lit .nilslice], false⟩, ⟨p13, 0, [], false⟩]) (env := [(3, .sl 1 0 0 0 3), (7, .nd 0 .one), (13, .nd 1 .one), (2, .ptr 0 0)]) ?_ ?_ tb_ok ap_ok ?_
      · refine midN_in ?_ .nil _ ?_ ?_ ?_
        · exact (.cons rfl (slOne hS) (.cons rfl (slOne hSk) .nil))
        · exact (.cons (win_row r23 (dlCons (dLit rfl) (dlCons (dLit rfl) dlNil))) (.cons (win_row r15 dlNil) .nil))
        · exact sepOk_ro rfl
        · exact .nil
      · exact (envEq e14 (dSl' (l := p13) (o := 0) rfl) (envEq b18 (dNd rfl (slOne hS)) (envEq b19 (dNd rfl (slOne hSk)) (envEq b20 (dPtr (l := p2) (o := 0) rfl) envNil))))
      refine all1 (by kernel_rfl) ?_
      intro vs ls H24 E24 st hE
      have b25 : E24 3 = .slice p13 0 0 0 3 := env_of st.inn hE 3 (by kernel_rfl)
      have b26 : E24 7 = S := env_of st.inn hE 7 (by kernel_rfl)
      have b27 : E24 13 = Sk := env_of st.inn hE 13 (by kernel_rfl)
      have b28 : E24 2 = .ptr p2 0 := env_of st.inn hE 2 (by kernel_rfl)
      have g29 : Grew H12 H24 := (st.kept.grew (Nat.le_of_ble_eq_true (by kernel_rfl)))
      have g30 : Grew H H24 := Grew.trans g22 g29
      have r31 := g29.at r23
      have r32 := g29.at r15
      clear st hE vs ls
      have sx35 : SlF H24 3 [] (.slice p13 0 0 0 3) := .sl (by simpa using r32) rfl (Nat.le_refl _)
      refine res_append0K (free := false) (d := (some 8)) (sz := 3) (bytes := 12) (x := .tmp 3) (y := .tmp 7) (by kernel_rfl) (S := .slice p13 0 0 0 3) (ys := ms) (by show E24 3 = _; exact b25) sx35 (.inr ⟨_, rfl⟩) (by show srcCells _ _ (E24 7) = _; rw [b26]; exact src_list hr.len (hS.grew g30)) (recs_one hr rfl) (by omega) ?_
      intro S33 H34 sS33 fS33 oS33
      have ne36 : ApartL (S33) p2 := fS33.apartL (H24.lt_of_get r31) (ApartL.of (by first | assumption | exact Apart.symm (by assumption)))
      have fr37 : FreshS H.next (S33) := fS33.fresh (FreshS.of_le op13) g30.next
      have g38 : Grew H H34 := Grew.trans g30 oS33
      have r39 := oS33.at r31
      have r40 := oS33.at r32
      refine run_mn (φ := φ0) (pm := pmR 1 [] 0) 20 (nk := [(.atom 0, .one), (.atom 1, .one), (.atom 2, .one)]) (fs := []) (xs := [S, Sk, S33]) (ws := [⟨p2, 0, [.lit .nilslice, .lit .nilslice], false⟩]) (env := [(7, .nd 0 .one), (13, .nd 1 .one), (2, .ptr 0 0), (8, .nd 2 .one)]) ?_ ?_ tb_ok ap_ok ?_
      · refine midN_in ?_ .nil _ ?_ ?_ ?_
        · exact (.cons rfl (slOne hS) (.cons rfl (slOne hSk) (.cons rfl sS33.one .nil)))
        · exact (.cons (win_row r39 (dlCons (dLit rfl) (dlCons (dLit rfl) dlNil))) .nil)
        · exact sepOk_ro rfl
        · exact .nil
      · exact (envEq (put_ne rfl b26) (dNd rfl (slOne hS)) (envEq (put_ne rfl b27) (dNd rfl (slOne hSk)) (envEq (put_ne rfl b28) (dPtr (l := p2) (o := 0) rfl) (envEq put_same (dNd rfl sS33.one) envNil))))
      refine all1 (by kernel_rfl) ?_
      intro vs ls H41 E41 st hE
      obtain ⟨p42, e43, r44, n45⟩ := sl_of st.inn hE 9 1 0 0 6 (by kernel_rfl) (ds := []) (by kernel_rfl)
      have op42 : H.next ≤ p42 := Nat.le_trans g38.next (n45 (Nat.le_of_ble_eq_true rfl))
      have ne46 : Apart p42 p2 := ⟨Nat.ne_of_gt (Nat.lt_of_lt_of_le (H34.lt_of_get r39) (n45 (Nat.le_of_ble_eq_true rfl)))⟩
      have ne47 : ApartL (S33) p42 := sS33.apart_new (n45 (Nat.le_of_ble_eq_true rfl))
      have b48 : E41 13 = Sk := env_of st.inn hE 13 (by kernel_rfl)
      have b49 : E41 8 = S33 := env_of st.inn hE 8 (by kernel_rfl)
      have b50 : E41 2 = .ptr p2 0 := env_of st.inn hE 2 (by kernel_rfl)
      have g51 : Grew H34 H41 := (st.kept.grew (Nat.le_of_ble_eq_true (by kernel_rfl)))
      have g52 : Grew H H41 := Grew.trans g38 g51
      have r53 := g51.at r39
      have s54 := sS33.grew g51
      clear st hE vs ls
      have sx57 : SlF H41 6 [] (.slice p42 0 0 0 6) := .sl (by simpa using r44) rfl (Nat.le_refl _)
      refine res_append0K (free := true) (d := (some 14)) (sz := 6) (bytes := 32) (x := .tmp 9) (y := .tmp 13) (by kernel_rfl) (S := .slice p42 0 0 0 6) (ys := ks) (by show E41 9 = _; exact e43) sx57 (.inr ⟨_, rfl⟩) (by show srcCells _ _ (E41 13) = _; rw [b48]; exact src_list hrk.len (hSk.grew g52)) (recs_one hrk rfl) (by omega) ?_
      intro S55 H56 sS55 fS55 oS55
      have ne58 : ApartL (S55) p2 := fS55.apartL (H41.lt_of_get r53) (ApartL.of (by first | assumption | exact Apart.symm (by assumption)))
      have ne59 : ApartS (S55) (S33) := fS55.apartS s54.lt (ApartS.of (l := p42) (by assumption))
      have fr60 : FreshS H.next (S55) := fS55.fresh (FreshS.of_le op42) g52.next
      have g61 : Grew H H56 := Grew.trans g52 oS55
      have r62 := oS55.at r53
      have r63 := oS55.at r44
      have s64 := s54.grew oS55
      refine run_mn (φ := φ0) (pm := pmR 0 [] 0) 20 (nk := [(.atom 0, .one), (.atom 1, .one), (.atom 2, .one), (.atom 3, .one)]) (fs := []) (xs := [S, Sk, S33, S55]) (ws := [⟨p2, 0, [.lit .nilslice, .lit .nilslice], true⟩]) (env := [(13, .nd 1 .one), (8, .nd 2 .one), (2, .ptr 0 0), (14, .nd 3 .one)]) ?_ ?_ tb_ok ap_ok ?_
      · refine midN_in ?_ .nil _ ?_ ?_ ?_
        · exact (.cons rfl (slOne hS) (.cons rfl (slOne hSk) (.cons rfl sS33.one (.cons rfl sS55.one .nil))))
        · exact (.cons (win_own r62 (dlCons (dLit rfl) (dlCons (dLit rfl) dlNil))) .nil)
        · exact ⟨(fun v hv => (by cases hv)), trivial⟩
        · exact .nil
      · exact (envEq (put_ne rfl b48) (dNd rfl (slOne hSk)) (envEq (put_ne rfl b49) (dNd rfl sS33.one) (envEq (put_ne rfl b50) (dPtr (l := p2) (o := 0) rfl) (envEq put_same (dNd rfl sS55.one) envNil))))
      refine all1 (by kernel_rfl) ?_
      intro vs ls H65 E65 st hE
      have gz : Grew H H65 := (grew_own g61 (st.inn.kept) ⟨op2, trivial⟩)
      exact res_ex (by kernel_rfl) (end_same st.inn hE (.inr rfl) (a := .agg [S33, S55]) (by kernel_rfl) gz.next ⟨gz, _, _, rfl, (s64.keep st.inn.kept ⟨by assumption, trivial⟩), fr37, (sS55.keep st.inn.kept ⟨by assumption, trivial⟩), fr60, by first | assumption | exact ApartS.symm (by assumption)⟩)
    ·
      refine run_mn (φ := φ0) (pm := pmR 2 [] 0) 20 (nk := [(.atom 0, .one), (.atom 1, .one)]) (fs := []) (xs := [S, Sk]) (ws := [⟨p2, 0, [.lit .nilslice, .lit .nilslice], false⟩, ⟨p13, 0, [], false⟩]) (env := [(3, .sl 1 0 0 0 3), (7, .nd 0 .one), (13, .nd 1 .one), (2, .ptr 0 0)]) ?_ ?_ tb_ok ap_ok ?_
      · refine midN_in ?_ .nil _ ?_ ?_ ?_
        · exact (.cons rfl (slOne hS) (.cons rfl (slOne hSk) .nil))
        · exact (.cons (win_row r23 (dlCons (dLit rfl) (dlCons (dLit rfl) dlNil))) (.cons (win_row r15 dlNil) .nil))
        · exact sepOk_ro rfl
        · exact .nil
      · exact (envEq e14 (dSl' (l := p13) (o := 0) rfl) (envEq b18 (dNd rfl (slOne hS)) (envEq b19 (dNd rfl (slOne hSk)) (envEq b20 (dPtr (l := p2) (o := 0) rfl) envNil))))
      refine all1 (by kernel_rfl) ?_
      intro vs ls H66 E66 st hE
      obtain ⟨p67, e68, r69, n70⟩ := sl_of st.inn hE 9 2 0 0 6 (by kernel_rfl) (ds := []) (by kernel_rfl)
      have op67 : H.next ≤ p67 := Nat.le_trans g22.next (n70 (Nat.le_of_ble_eq_true rfl))
      have ne71 : Apart p67 p2 := ⟨Nat.ne_of_gt (Nat.lt_of_lt_of_le (H12.lt_of_get r23) (n70 (Nat.le_of_ble_eq_true rfl)))⟩
      have ne72 : Apart p67 p13 := ⟨Nat.ne_of_gt (Nat.lt_of_lt_of_le (H12.lt_of_get r15) (n70 (Nat.le_of_ble_eq_true rfl)))⟩
      have b73 : E66 3 = .slice p13 0 0 0 3 := env_of st.inn hE 3 (by kernel_rfl)
      have b74 : E66 7 = S := env_of st.inn hE 7 (by kernel_rfl)
      have b75 : E66 13 = Sk := env_of st.inn hE 13 (by kernel_rfl)
      have b76 : E66 2 = .ptr p2 0 := env_of st.inn hE 2 (by kernel_rfl)
      have g77 : Grew H12 H66 := (st.kept.grew (Nat.le_of_ble_eq_true (by kernel_rfl)))
      have g78 : Grew H H66 := Grew.trans g22 g77
      have r79 := g77.at r23
      have r80 := g77.at r15
      clear st hE vs ls
      have sx83 : SlF H66 3 [] (.slice p13 0 0 0 3) := .sl (by simpa using r80) rfl (Nat.le_refl _)
      refine res_append0K (free := false) (d := (some 8)) (sz := 3) (bytes := 12) (x := .tmp 3) (y := .tmp 7) (by kernel_rfl) (S := .slice p13 0 0 0 3) (ys := ms) (by show E66 3 = _; exact b73) sx83 (.inr ⟨_, rfl⟩) (by show srcCells _ _ (E66 7) = _; rw [b74]; exact src_list hr.len (hS.grew g78)) (recs_one hr rfl) (by omega) ?_
      intro S81 H82 sS81 fS81 oS81
      have ne84 : ApartL (S81) p2 := fS81.apartL (H66.lt_of_get r79) (ApartL.of (by first | assumption | exact Apart.symm (by assumption)))
      have ne85 : ApartL (S81) p67 := fS81.apartL (H66.lt_of_get r69) (ApartL.of (by first | assumption | exact Apart.symm (by assumption)))
      have fr86 : FreshS H.next (S81) := fS81.fresh (FreshS.of_le op13) g78.next
      have g87 : Grew H H82 := Grew.trans g78 oS81
      have r88 := oS81.at r79
      have r89 := oS81.at r80
      have r90 := oS81.at r69
      refine run_mn (φ := φ0) (pm := pmR 2 [] 0) 20 (nk := [(.atom 0, .one), (.atom 1, .one), (.atom 2, .one)]) (fs := []) (xs := [S, Sk, S81]) (ws := [⟨p2, 0, [.lit .nilslice, .lit .nilslice], false⟩, ⟨p67, 0, [], false⟩]) (env := [(7, .nd 0 .one), (9, .sl 1 0 0 0 6), (13, .nd 1 .one), (2, .ptr 0 0), (8, .nd 2 .one)]) ?_ ?_ tb_ok ap_ok ?_
      · refine midN_in ?_ .nil _ ?_ ?_ ?_
        · exact (.cons rfl (slOne hS) (.cons rfl (slOne hSk) (.cons rfl sS81.one .nil)))
        · exact (.cons (win_row r88 (dlCons (dLit rfl) (dlCons (dLit rfl) dlNil))) (.cons (win_row r90 dlNil) .nil))
        · exact sepOk_ro rfl
        · exact .nil
      · exact (envEq (put_ne rfl b74) (dNd rfl (slOne hS)) (envEq (put_ne rfl e68) (dSl' (l := p67) (o := 0) rfl) (envEq (put_ne rfl b75) (dNd rfl (slOne hSk)) (envEq (put_ne rfl b76) (dPtr (l := p2) (o := 0) rfl) (envEq put_same (dNd rfl sS81.one) envNil)))))
      refine all1 (by kernel_rfl) ?_
      intro vs ls H91 E91 st hE
      have b92 : E91 9 = .slice p67 0 0 0 6 := env_of st.inn hE 9 (by kernel_rfl)
      have b93 : E91 13 = Sk := env_of st.inn hE 13 (by kernel_rfl)
      have b94 : E91 8 = S81 := env_of st.inn hE 8 (by kernel_rfl)
      have b95 : E91 2 = .ptr p2 0 := env_of st.inn hE 2 (by kernel_rfl)
      have g96 : Grew H82 H91 := (st.kept.grew (Nat.le_of_ble_eq_true (by kernel_rfl)))
      have g97 : Grew H H91 := Grew.trans g87 g96
      have r98 := g96.at r88
      have r99 := g96.at r90
      have s100 := sS81.grew g96
      clear st hE vs ls
      have sx103 : SlF H91 6 [] (.slice p67 0 0 0 6) := .sl (by simpa using r99) rfl (Nat.le_refl _)
      refine res_append0K (free := true) (d := (some 14)) (sz := 6) (bytes := 32) (x := .tmp 9) (y := .tmp 13) (by kernel_rfl) (S := .slice p67 0 0 0 6) (ys := ks) (by show E91 9 = _; exact b92) sx103 (.inr ⟨_, rfl⟩) (by show srcCells _ _ (E91 13) = _; rw [b93]; exact src_list hrk.len (hSk.grew g97)) (recs_one hrk rfl) (by omega) ?_
      intro S101 H102 sS101 fS101 oS101
      have ne104 : ApartL (S101) p2 := fS101.apartL (H91.lt_of_get r98) (ApartL.of (by first | assumption | exact Apart.symm (by assumption)))
      have ne105 : ApartS (S101) (S81) := fS101.apartS s100.lt (ApartS.of (l := p67) (by assumption))
      have fr106 : FreshS H.next (S101) := fS101.fresh (FreshS.of_le op67) g97.next
      have g107 : Grew H H102 := Grew.trans g97 oS101
      have r108 := oS101.at r98
      have r109 := oS101.at r99
      have s110 := s100.grew oS101
      refine run_mn (φ := φ0) (pm := pmR 0 [] 0) 20 (nk := [(.atom 0, .one), (.atom 1, .one), (.atom 2, .one), (.atom 3, .one)]) (fs := []) (xs := [S, Sk, S81, S101]) (ws := [⟨p2, 0, [.lit .nilslice, .lit .nilslice], true⟩]) (env := [(13, .nd 1 .one), (8, .nd 2 .one), (2, .ptr 0 0), (14, .nd 3 .one)]) ?_ ?_ tb_ok ap_ok ?_
      · refine midN_in ?_ .nil _ ?_ ?_ ?_
        · exact (.cons rfl (slOne hS) (.cons rfl (slOne hSk) (.cons rfl sS81.one (.cons rfl sS101.one .nil))))
        · exact (.cons (win_own r108 (dlCons (dLit rfl) (dlCons (dLit rfl) dlNil))) .nil)
        · exact ⟨(fun v hv => (by cases hv)), trivial⟩
        · exact .nil
      · exact (envEq (put_ne rfl b93) (dNd rfl (slOne hSk)) (envEq (put_ne rfl b94) (dNd rfl sS81.one) (envEq (put_ne rfl b95) (dPtr (l := p2) (o := 0) rfl) (envEq put_same (dNd rfl sS101.one) envNil))))
      refine all1 (by kernel_rfl) ?_
      intro vs ls H111 E111 st hE
      have gz : Grew H H111 := (grew_own g107 (st.inn.kept) ⟨op2, trivial⟩)
      exact res_ex (by kernel_rfl) (end_same st.inn hE (.inr rfl) (a := .agg [S81, S101]) (by kernel_rfl) gz.next ⟨gz, _, _, rfl, (s110.keep st.inn.kept ⟨by assumption, trivial⟩), fr86, (sS101.keep st.inn.kept ⟨by assumption, trivial⟩), fr106, by first | assumption | exact ApartS.symm (by assumption)⟩)
  ·
    refine run_mn (φ := φ0) (pm := pmR 1 [] 0) 20 (nk := [(.atom 0, .one), (.atom 1, .one)]) (fs := []) (xs := [S, Sk]) (ws := [⟨p2, 0, [.lit .nilslice, .lit .nilslice], false⟩]) (env := [(7, .nd 0 .one), (13, .nd 1 .one), (2, .ptr 0 0)]) ?_ ?_ tb_ok ap_ok ?_
    · refine midN_in ?_ .nil _ ?_ ?_ ?_
      · exact (.cons rfl (slOne hS) (.cons rfl (slOne hSk) .nil))
      · exact (.cons (win_row r4 (dlCons (dLit rfl) (dlCons (dLit rfl) dlNil))) .nil)
      · exact sepOk_ro rfl
      · exact .nil
    · exact (envEq b7 (dNd rfl (slOne hS)) (envEq b8 (dNd rfl (slOne hSk)) (envEq e3 (dPtr (l := p2) (o := 0) rfl) envNil)))
    refine all1 (by kernel_rfl) ?_
    intro vs ls H112 E112 st hE
    obtain ⟨p113, e114, r115, n116⟩ := sl_of st.inn hE 3 2 0 0 3 (by kernel_rfl) (ds := []) (by kernel_rfl)
    have op113 : H.next ≤ p113 := Nat.le_trans g10.next (n116 (Nat.le_of_ble_eq_true rfl))
    obtain ⟨p117, e118, r119, n120⟩ := sl_of st.inn hE 9 1 0 0 6 (by kernel_rfl) (ds := []) (by kernel_rfl)
    have op117 : H.next ≤ p117 := Nat.le_trans g10.next (n120 (Nat.le_of_ble_eq_true rfl))
    have ne121 : Apart p113 p117 := ⟨row_ne st.inn hE 3 9 2 1 (v := .sl 2 0 0 0 3) (v' := .sl 1 0 0 0 6) (by kernel_rfl) (by kernel_rfl) rfl rfl (cs := []) (by kernel_rfl) (by decide) e114 e118 rfl rfl⟩
    have ne122 : Apart p113 p2 := ⟨Nat.ne_of_gt (Nat.lt_of_lt_of_le (H1.lt_of_get r4) (n116 (Nat.le_of_ble_eq_true rfl)))⟩
    have ne123 : Apart p117 p2 := ⟨Nat.ne_of_gt (Nat.lt_of_lt_of_le (H1.lt_of_get r4) (n120 (Nat.le_of_ble_eq_true rfl)))⟩
    have b124 : E112 7 = S := env_of st.inn hE 7 (by kernel_rfl)
    have b125 : E112 13 = Sk := env_of st.inn hE 13 (by kernel_rfl)
    have b126 : E112 2 = .ptr p2 0 := env_of st.inn hE 2 (by kernel_rfl)
    have g127 : Grew H1 H112 := (st.kept.grew (Nat.le_of_ble_eq_true (by kernel_rfl)))
    have g128 : Grew H H112 := Grew.trans g10 g127
    have r129 := g127.at r4
    clear st hE vs ls
    have sx132 : SlF H112 3 [] (.slice p113 0 0 0 3) := .sl (by simpa using r115) rfl (Nat.le_refl _)
    refine res_append0K (free := false) (d := (some 8)) (sz := 3) (bytes := 12) (x := .tmp 3) (y := .tmp 7) (by kernel_rfl) (S := .slice p113 0 0 0 3) (ys := ms) (by show E112 3 = _; exact e114) sx132 (.inr ⟨_, rfl⟩) (by show srcCells _ _ (E112 7) = _; rw [b124]; exact src_list hr.len (hS.grew g128)) (recs_one hr rfl) (by omega) ?_
    intro S130 H131 sS130 fS130 oS130
    have ne133 : ApartL (S130) p2 := fS130.apartL (H112.lt_of_get r129) (ApartL.of (by first | assumption | exact Apart.symm (by assumption)))
    have ne134 : ApartL (S130) p117 := fS130.apartL (H112.lt_of_get r119) (ApartL.of (by first | assumption | exact Apart.symm (by assumption)))
    have fr135 : FreshS H.next (S130) := fS130.fresh (FreshS.of_le op113) g128.next
    have g136 : Grew H H131 := Grew.trans g128 oS130
    have r137 := oS130.at r129
    have r138 := oS130.at r115
    have r139 := oS130.at r119
    refine run_mn (φ := φ0) (pm := pmR 2 [] 0) 20 (nk := [(.atom 0, .one), (.atom 1, .one), (.atom 2, .one)]) (fs := []) (xs := [S, Sk, S130]) (ws := [⟨p2, 0, [.lit .nilslice, .lit .nilslice], false⟩, ⟨p117, 0, [], false⟩]) (env := [(7, .nd 0 .one), (9, .sl 1 0 0 0 6), (13, .nd 1 .one), (2, .ptr 0 0), (8, .nd 2 .one)]) ?_ ?_ tb_ok ap_ok ?_
    · refine midN_in ?_ .nil _ ?_ ?_ ?_
      · exact (.cons rfl (slOne hS) (.cons rfl (slOne hSk) (.cons rfl sS130.one .nil)))
      · exact (.cons (win_row r137 (dlCons (dLit rfl) (dlCons (dLit rfl) dlNil))) (.cons (win_row r139 dlNil) .nil))
      · exact sepOk_ro rfl
      · exact .nil
    · exact (envEq (put_ne rfl b124) (dNd rfl (slOne hS)) (envEq (put_ne rfl e118) (dSl' (l := p117) (o := 0) rfl) (envEq (put_ne rfl b125) (dNd rfl (slOne hSk)) (envEq (put_ne rfl b126) (dPtr (l := p2) (o := 0) rfl) (envEq put_same (dNd rfl sS130.one) envNil)))))
    refine all1 (by kernel_rfl) ?_
    intro vs ls H140 E140 st hE
    have b141 : E140 9 = .slice p117 0 0 0 6 := env_of st.inn hE 9 (by kernel_rfl)
    have b142 : E140 13 = Sk := env_of st.inn hE 13 (by kernel_rfl)
    have b143 : E140 8 = S130 := env_of st.inn hE 8 (by kernel_rfl)
    have b144 : E140 2 = .ptr p2 0 := env_of st.inn hE 2 (by kernel_rfl)
    have g145 : Grew H131 H140 := (st.kept.grew (Nat.le_of_ble_eq_true (by kernel_rfl)))
    have g146 : Grew H H140 := Grew.trans g136 g145
    have r147 := g145.at r137
    have r148 := g145.at r139
    have s149 := sS130.grew g145
    clear st hE vs ls
    have sx152 : SlF H140 6 [] (.slice p117 0 0 0 6) := .sl (by simpa using r148) rfl (Nat.le_refl _)
    refine res_append0K (free := true) (d := (some 14)) (sz := 6) (bytes := 32) (x := .tmp 9) (y := .tmp 13) (by kernel_rfl) (S := .slice p117 0 0 0 6) (ys := ks) (by show E140 9 = _; exact b141) sx152 (.inr ⟨_, rfl⟩) (by show srcCells _ _ (E140 13) = _; rw [b142]; exact src_list hrk.len (hSk.grew g146)) (recs_one hrk rfl) (by omega) ?_
    intro S150 H151 sS150 fS150 oS150
    have ne153 : ApartL (S150) p2 := fS150.apartL (H140.lt_of_get r147) (ApartL.of (by first | assumption | exact Apart.symm (by assumption)))
    have ne154 : ApartS (S150) (S130) := fS150.apartS s149.lt (ApartS.of (l := p117) (by assumption))
    have fr155 : FreshS H.next (S150) := fS150.fresh (FreshS.of_le op117) g146.next
    have g156 : Grew H H151 := Grew.trans g146 oS150
    have r157 := oS150.at r147
    have r158 := oS150.at r148
    have s159 := s149.grew oS150
    refine run_mn (φ := φ0) (pm := pmR 0 [] 0) 20 (nk := [(.atom 0, .one), (.atom 1, .one), (.atom 2, .one), (.atom 3, .one)]) (fs := []) (xs := [S, Sk, S130, S150]) (ws := [⟨p2, 0, [.lit .nilslice, .lit .nilslice], true⟩]) (env := [(13, .nd 1 .one), (8, .nd 2 .one), (2, .ptr 0 0), (14, .nd 3 .one)]) ?_ ?_ tb_ok ap_ok ?_
    · refine midN_in ?_ .nil _ ?_ ?_ ?_
      · exact (.cons rfl (slOne hS) (.cons rfl (slOne hSk) (.cons rfl sS130.one (.cons rfl sS150.one .nil))))
      · exact (.cons (win_own r157 (dlCons (dLit rfl) (dlCons (dLit rfl) dlNil))) .nil)
      · exact ⟨(fun v hv => (by cases hv)), trivial⟩
      · exact .nil
    · exact (envEq (put_ne rfl b142) (dNd rfl (slOne hSk)) (envEq (put_ne rfl b143) (dNd rfl sS130.one) (envEq (put_ne rfl b144) (dPtr (l := p2) (o := 0) rfl) (envEq put_same (dNd rfl sS150.one) envNil))))
    refine all1 (by kernel_rfl) ?_
    intro vs ls H160 E160 st hE
    have gz : Grew H H160 := (grew_own g156 (st.inn.kept) ⟨op2, trivial⟩)
    exact res_ex (by kernel_rfl) (end_same st.inn hE (.inr rfl) (a := .agg [S130, S150]) (by kernel_rfl) gz.next ⟨gz, _, _, rfl, (s159.keep st.inn.kept ⟨by assumption, trivial⟩), fr135, (sS150.keep st.inn.kept ⟨by assumption, trivial⟩), fr155, by first | assumption | exact ApartS.symm (by assumption)⟩)
end Go.Proofs.Ytcmoeocemmeofaa
