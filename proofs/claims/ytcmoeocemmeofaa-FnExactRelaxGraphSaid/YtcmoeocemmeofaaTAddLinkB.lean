/- Contracts: copies of lists, graphs; a link more. -/
import Derived.Test.YtcmoeocemmeofaaTGraphF
import Derived.Test.YtcmoeocemmeofaaSxD
set_option linter.unusedVariables false
set_option linter.unusedSimpArgs false
namespace Go.Proofs.Ytcmoeocemmeofaa
open Go.Ab
set_option maxRecDepth 100000
set_option maxHeartbeats 1000000
attribute [local irreducible] Res
theorem k_CloneP (H : AHeap) (ms : List (List AV)) (hr : Recs KP ms) (S : AV) (hS : SlL H 3 ms S) (mxms : ms.length ≤ 1048576) : ACalls Try.prog 105 [S] H fun r H' => Grew H H' ∧ SlF H' 3 ms r ∧ FreshS H.next r := by
 cases hS with
 | nil h0 =>
  refine res_start h_slices_Clone_impl_Pose_impl_Pose (by simp) ?_
  have q1 : KdsL [] [] := .nil
  refine run_mc (φ := φ0) (pm := pmR 0 [] 0) 20 (ws := []) (env := [(0, .lit .nilslice)]) q1 .nil (sepOk_ro rfl) .nil (eC q1 (.cons (t := 0) rfl .nil)) tb_ok ap_ok ?_
  refine all1 (by kernel_rfl) ?_
  intro vs ls H2 E2 st hE
  have gz : Grew H H2 := (Grew.trans (Grew.refl _) (gk st))
  exact res_ex (by kernel_rfl) (end_same st.inn hE (.inr rfl) (a := .nilslice) (by kernel_rfl) gz.next ⟨gz, .nil h0, .nil⟩)
 | @sl l n cap rest wr hg hn hc =>
  subst hn
  have hS : SlL H 3 ms (.slice l 0 ms.length cap 3) := .sl hg rfl hc
  refine res_start h_slices_Clone_impl_Pose_impl_Pose (by simp) ?_
  have q1 : KdsL [.one] [.slice l 0 ms.length cap 3] := .cons rfl .nil
  refine run_mc (φ := φ0) (pm := pmR 0 [(.nilS (n1 0), .lit (.bool false))] 0) 20 (ws := []) (env := [(0, n1 0)]) q1 .nil (sepOk_ro rfl) (.cons (⟨.slice l 0 ms.length cap 3, _, (dE q1), dLit rfl, fun E get => by simp [aval, Opd.ev]⟩) .nil) (eC q1 (.cons (t := 0) rfl .nil)) tb_ok ap_ok ?_
  refine all1 (by kernel_rfl) ?_
  intro vs ls H2 E2 st hE
  obtain ⟨p3, e4, r5, n6⟩ := sl_of st.inn hE 5 0 0 0 3 (by kernel_rfl) (ds := []) (by kernel_rfl)
  have op3 : H.next ≤ p3 := Nat.le_trans (Nat.le_refl _) (n6 (Nat.le_of_ble_eq_true rfl))
  have b7 := eo st hE 6 (.slice l 0 ms.length cap 3)
  have g8 : Grew H H2 := (gk st)
  have g9 : Grew H H2 := Grew.trans (Grew.refl _) g8
  clear st hE vs ls
  have sx12 : SlF H2 3 [] (.slice p3 0 0 0 3) := .sl (by simpa using r5) rfl (Nat.le_refl _)
  refine res_append0 (d := (some 7)) (sz := 3) (bytes := 12) (x := .tmp 5) (y := .tmp 6) (by kernel_rfl) (S := .slice p3 0 0 0 3) (ys := ms) (by show E2 5 = _; exact e4) sx12 (.inr ⟨_, rfl⟩) (by show srcCells _ _ (E2 6) = _; rw [b7]; exact src_list hr.len (hS.grew g9)) (recs_one hr rfl) (by omega) ?_
  intro S10 H11 sS10 fS10 oS10
  have fr13 : FreshS H.next (S10) := fS10.fresh (FreshS.of_le op3) g9.next
  have g14 : Grew H H11 := Grew.trans g9 oS10
  have q16 := q1.app (.cons sS10.one .nil : KdsL [.one] [S10])
  refine run_mc (φ := φ0) (pm := pmR 0 [] 0) 20 (ws := []) (env := [(6, n1 0), (7, n1 1)]) q16 .nil (sepOk_ro rfl) .nil (eC q16 (.cons (put_ne rfl b7) (.cons put_same .nil))) tb_ok ap_ok ?_
  refine all1 (by kernel_rfl) ?_
  intro vs ls H17 E17 st hE
  have gz : Grew H H17 := (Grew.trans g14 (gk st))
  exact res_ex (by kernel_rfl) (end_same st.inn hE (.inr rfl) (a := S10) (by kernel_rfl) gz.next ⟨gz, (sS10.grew (st.inn.kept.grew (Nat.le_refl _))), fr13⟩)
theorem k_CloneL (H : AHeap) (ms : List (List AV)) (hr : Recs KL ms) (S : AV) (hS : SlL H 6 ms S) (mxms : ms.length ≤ 1048576) : ACalls Try.prog 106 [S] H fun r H' => Grew H H' ∧ SlF H' 6 ms r ∧ FreshS H.next r := by
 cases hS with
 | nil h0 =>
  refine res_start h_slices_Clone_impl_Link_impl_Link (by simp) ?_
  have q1 : KdsL [] [] := .nil
  refine run_mc (φ := φ0) (pm := pmR 0 [] 0) 20 (ws := []) (env := [(0, .lit .nilslice)]) q1 .nil (sepOk_ro rfl) .nil (eC q1 (.cons (t := 0) rfl .nil)) tb_ok ap_ok ?_
  refine all1 (by kernel_rfl) ?_
  intro vs ls H2 E2 st hE
  have gz : Grew H H2 := (Grew.trans (Grew.refl _) (gk st))
  exact res_ex (by kernel_rfl) (end_same st.inn hE (.inr rfl) (a := .nilslice) (by kernel_rfl) gz.next ⟨gz, .nil h0, .nil⟩)
 | @sl l n cap rest wr hg hn hc =>
  subst hn
  have hS : SlL H 6 ms (.slice l 0 ms.length cap 6) := .sl hg rfl hc
  refine res_start h_slices_Clone_impl_Link_impl_Link (by simp) ?_
  have q1 : KdsL [.one] [.slice l 0 ms.length cap 6] := .cons rfl .nil
  refine run_mc (φ := φ0) (pm := pmR 0 [(.nilS (n1 0), .lit (.bool false))] 0) 20 (ws := []) (env := [(0, n1 0)]) q1 .nil (sepOk_ro rfl) (.cons (⟨.slice l 0 ms.length cap 6, _, (dE q1), dLit rfl, fun E get => by simp [aval, Opd.ev]⟩) .nil) (eC q1 (.cons (t := 0) rfl .nil)) tb_ok ap_ok ?_
  refine all1 (by kernel_rfl) ?_
  intro vs ls H2 E2 st hE
  obtain ⟨p3, e4, r5, n6⟩ := sl_of st.inn hE 5 0 0 0 6 (by kernel_rfl) (ds := []) (by kernel_rfl)
  have op3 : H.next ≤ p3 := Nat.le_trans (Nat.le_refl _) (n6 (Nat.le_of_ble_eq_true rfl))
  have b7 := eo st hE 6 (.slice l 0 ms.length cap 6)
  have g8 : Grew H H2 := (gk st)
  have g9 : Grew H H2 := Grew.trans (Grew.refl _) g8
  clear st hE vs ls
  have sx12 : SlF H2 6 [] (.slice p3 0 0 0 6) := .sl (by simpa using r5) rfl (Nat.le_refl _)
  refine res_append0 (d := (some 7)) (sz := 6) (bytes := 32) (x := .tmp 5) (y := .tmp 6) (by kernel_rfl) (S := .slice p3 0 0 0 6) (ys := ms) (by show E2 5 = _; exact e4) sx12 (.inr ⟨_, rfl⟩) (by show srcCells _ _ (E2 6) = _; rw [b7]; exact src_list hr.len (hS.grew g9)) (recs_one hr rfl) (by omega) ?_
  intro S10 H11 sS10 fS10 oS10
  have fr13 : FreshS H.next (S10) := fS10.fresh (FreshS.of_le op3) g9.next
  have g14 : Grew H H11 := Grew.trans g9 oS10
  have q16 := q1.app (.cons sS10.one .nil : KdsL [.one] [S10])
  refine run_mc (φ := φ0) (pm := pmR 0 [] 0) 20 (ws := []) (env := [(6, n1 0), (7, n1 1)]) q16 .nil (sepOk_ro rfl) .nil (eC q16 (.cons (put_ne rfl b7) (.cons put_same .nil))) tb_ok ap_ok ?_
  refine all1 (by kernel_rfl) ?_
  intro vs ls H17 E17 st hE
  have gz : Grew H H17 := (Grew.trans g14 (gk st))
  exact res_ex (by kernel_rfl) (end_same st.inn hE (.inr rfl) (a := S10) (by kernel_rfl) gz.next ⟨gz, (sS10.grew (st.inn.kept.grew (Nat.le_refl _))), fr13⟩)
theorem k_ownGraph (H : AHeap) (ms : List (List AV)) (hr : Recs KP ms) (S : AV) (hS : SlL H 3 ms S) (mxms : ms.length ≤ 1048576) (ks : List (List AV)) (hrk : Recs KL ks) (Sk : AV) (hSk : SlL H 6 ks Sk) (mxks : ks.length ≤ 1048576) : ACalls Try.prog 80 [.agg [S, Sk]] H fun r H' => Grew H H' ∧ ∃ S' Sk', r = .agg [S', Sk'] ∧ SlF H' 3 ms S' ∧ FreshS H.next S' ∧ SlF H' 6 ks Sk' ∧ FreshS H.next Sk' ∧ ApartS S' Sk' := by
 refine res_start h_impl_ownGraph (by simp) ?_
 have q1 : KdsL [.one, .one] [S, Sk] := .cons (slOne hS) (.cons (slOne hSk) .nil)
 refine run_mc (φ := φ0) (pm := pmR 0 [] 0) 20 (ws := []) (env := [(0, .agg [n1 0, n1 1])]) q1 .nil (sepOk_ro rfl) .nil (eC q1 (.cons (t := 0) rfl .nil)) tb_ok ap_ok ?_
 refine all1 (by kernel_rfl) ?_
 intro vs ls H2 E2 st hE
 obtain ⟨p3, e4, r5, n6⟩ := ptr_of st.inn hE 2 1 (by kernel_rfl) (ds := [.nilslice, .nilslice]) (by kernel_rfl)
 have op3 : H.next ≤ p3 := Nat.le_trans (Nat.le_refl _) (n6 (Nat.le_of_ble_eq_true rfl))
 have b7 := eo st hE 4 S
 have b8 := eo st hE 7 Sk
 have g9 : Grew H H2 := (gk st)
 have g10 : Grew H H2 := Grew.trans (Grew.refl _) g9
 clear st hE vs ls
 refine res_kid (free := false) (d := (some 5)) (f := 105) (args := [.tmp 4]) (by kernel_rfl) (R := fun z H' => Grew H2 H' ∧ SlF H' 3 ms z ∧ FreshS H2.next z) ?_ ?_
 ·
  show ACalls _ _ [E2 4] _ _
  rw [b7]
  exact k_CloneP H2 ms hr (S) (hS.grew g10) mxms
 rintro S11 H12 ⟨gS11, sS11, fS11⟩
 refine ⟨gS11, ?_⟩
 have ne13 : ApartL (S11) p3 := fS11.apartL (H2.lt_of_get r5)
 have fr14 : FreshS H.next (S11) := fS11.mono g10.next
 have g15 : Grew H H12 := Grew.trans g10 gS11
 have r16 := gS11.at r5
 have q17 := q1.app (.cons sS11.one .nil : KdsL [.one] [S11])
 refine run_mc (φ := φ0) (pm := pmR 1 [] 0) 20 (ws := [⟨p3, 0, [.lit .nilslice, .lit .nilslice], false⟩]) (env := [(4, n1 0), (7, n1 1), (2, .ptr 0 0), (5, n1 2)]) q17 (.cons (wR r16 q17) .nil) (sepOk_ro rfl) .nil (eC q17 (.cons (put_ne rfl b7) (.cons (put_ne rfl b8) (.cons (put_ne rfl e4) (.cons put_same .nil))))) tb_ok ap_ok ?_
 refine all1 (by kernel_rfl) ?_
 intro vs ls H18 E18 st hE
 have b19 := eo st hE 7 Sk
 have b20 := eo st hE 5 S11
 have b21 := eo st hE 2 (.ptr p3 0)
 have g22 : Grew H12 H18 := (gk st)
 have g23 : Grew H H18 := Grew.trans g15 g22
 have r24 := g22.at r16
 have s25 := sS11.grew g22
 clear st hE vs ls
 refine res_kid (free := false) (d := (some 8)) (f := 106) (args := [.tmp 7]) (by kernel_rfl) (R := fun z H' => Grew H18 H' ∧ SlF H' 6 ks z ∧ FreshS H18.next z) ?_ ?_
 ·
  show ACalls _ _ [E18 7] _ _
  rw [b19]
  exact k_CloneL H18 ks hrk (Sk) (hSk.grew g23) mxks
 rintro S26 H27 ⟨gS26, sS26, fS26⟩
 refine ⟨gS26, ?_⟩
 have ne28 : ApartL (S26) p3 := fS26.apartL (H18.lt_of_get r24)
 have ne29 : ApartS (S26) (S11) := fS26.apartS s25.lt
 have fr30 : FreshS H.next (S26) := fS26.mono g23.next
 have g31 : Grew H H27 := Grew.trans g23 gS26
 have r32 := gS26.at r24
 have s33 := s25.grew gS26
 have q34 := q17.app (.cons sS26.one .nil : KdsL [.one] [S26])
 refine run_mc (φ := φ0) (pm := pmR 0 [] 0) 20 (ws := [⟨p3, 0, [.lit .nilslice, .lit .nilslice], true⟩]) (env := [(7, n1 1), (5, n1 2), (2, .ptr 0 0), (8, n1 3)]) q34 (.cons (wO r32 q34) .nil) (sepD (by repeat (first | exact .nil | refine .cons (by first | assumption | exact Apart.symm (by assumption)) ?_))) .nil (eC q34 (.cons (put_ne rfl b19) (.cons (put_ne rfl b20) (.cons (put_ne rfl b21) (.cons put_same .nil))))) tb_ok ap_ok ?_
 refine all1 (by kernel_rfl) ?_
 intro vs ls H35 E35 st hE
 have gz : Grew H H35 := (grew_own g31 (st.inn.kept) ⟨op3, trivial⟩)
 exact res_ex (by kernel_rfl) (end_same st.inn hE (.inr rfl) (a := .agg [S11, S26]) (by kernel_rfl) gz.next ⟨gz, _, _, rfl, (s33.keep st.inn.kept ⟨by assumption, trivial⟩), fr14, (sS26.keep st.inn.kept ⟨by assumption, trivial⟩), fr30, by first | assumption | exact ApartS.symm (by assumption)⟩)
theorem k_l06Copy (H : AHeap) (l : Nat) (ms : List (List AV)) (hr : Recs KP ms) (S : AV) (hS : SlL H 3 ms S) (mxms : ms.length ≤ 1048576) (ks : List (List AV)) (hrk : Recs KL ks) (Sk : AV) (hSk : SlL H 6 ks Sk) (mxks : ks.length ≤ 1048576) (hg : H.get l = some (.row [S, Sk] true)) : ACalls Try.prog 78 [.ptr l 0] H fun r H' => Grew H H' ∧ ∃ S' Sk', r = .agg [S', Sk'] ∧ SlF H' 3 ms S' ∧ FreshS H.next S' ∧ SlF H' 6 ks Sk' ∧ FreshS H.next Sk' ∧ ApartS S' Sk' := by
 refine res_start h_spec_l06Copy (by simp) ?_
 have q1 : KdsL [.one, .one] [S, Sk] := .cons (slOne hS) (.cons (slOne hSk) .nil)
 refine run_mc (φ := φ0) (pm := pmR 1 [] 0) 20 (ws := [⟨l, 0, [n1 0, n1 1], false⟩]) (env := [(0, .ptr 0 0)]) q1 (.cons (wR hg q1) .nil) (sepOk_ro rfl) .nil (eC q1 (.cons (t := 0) rfl .nil)) tb_ok ap_ok ?_
 refine all1 (by kernel_rfl) ?_
 intro vs ls H2 E2 st hE
 obtain ⟨p3, e4, r5, n6⟩ := ptr_of st.inn hE 2 1 (by kernel_rfl) (ds := [.nilslice, .nilslice]) (by kernel_rfl)
 have op3 : H.next ≤ p3 := Nat.le_trans (Nat.le_refl _) (n6 (Nat.le_of_ble_eq_true rfl))
 have ne7 := apn hg (n6 (Nat.le_of_ble_eq_true rfl))
 have b8 := eo st hE 7 S
 have b9 := eo st hE 13 Sk
 have g10 : Grew H H2 := (gk st)
 have g11 : Grew H H2 := Grew.trans (Grew.refl _) g10
 clear st hE vs ls
 refine res_kids2 (by kernel_rfl) ?_ ?_
 ·
  refine run_mc (φ := φ0) (pm := pmR 1 [] 0) 20 (ws := [⟨p3, 0, [.lit .nilslice, .lit .nilslice], false⟩]) (env := [(7, n1 0), (13, n1 1), (2, .ptr 0 0)]) q1 (.cons (wR r5 q1) .nil) (sepOk_ro rfl) .nil (eC q1 (.cons b8 (.cons b9 (.cons e4 .nil)))) tb_ok ap_ok ?_
  refine all1 (by kernel_rfl) ?_
  intro vs ls H14 E14 st hE
  obtain ⟨p15, e16, r17, n18⟩ := sl_of st.inn hE 3 1 0 0 3 (by kernel_rfl) (ds := []) (by kernel_rfl)
  have op15 : H.next ≤ p15 := Nat.le_trans g11.next (n18 (Nat.le_of_ble_eq_true rfl))
  have ne19 := apn r5 (n18 (Nat.le_of_ble_eq_true rfl))
  have b20 := eo st hE 7 S
  have b21 := eo st hE 13 Sk
  have b22 := eo st hE 2 (.ptr p3 0)
  have g23 : Grew H2 H14 := (gk st)
  have g24 : Grew H H14 := Grew.trans g11 g23
  have r25 := g23.at r5
  clear st hE vs ls
  refine res_kids2 (by kernel_rfl) ?_ ?_
  ·
   refine run_mc (φ := φ0) (pm := pmR 2 [] 0) 20 (ws := [⟨p3, 0, [.lit .nilslice, .lit .nilslice], false⟩, ⟨p15, 0, [], false⟩]) (env := [(3, .sl 1 0 0 0 3), (7, n1 0), (13, n1 1), (2, .ptr 0 0)]) q1 (.cons (wR r25 q1) (.cons (wR r17 q1) .nil)) (sepOk_ro rfl) .nil (eC q1 (.cons e16 (.cons b20 (.cons b21 (.cons b22 .nil))))) tb_ok ap_ok ?_
   refine all1 (by kernel_rfl) ?_
   intro vs ls H27 E27 st hE
   have b28 := eo st hE 3 (.slice p15 0 0 0 3)
   have b29 := eo st hE 7 S
   have b30 := eo st hE 13 Sk
   have b31 := eo st hE 2 (.ptr p3 0)
   have g32 : Grew H14 H27 := (gk st)
   have g33 : Grew H H27 := Grew.trans g24 g32
   have r34 := g32.at r25
   have r35 := g32.at r17
   clear st hE vs ls
   have sx38 : SlF H27 3 [] (.slice p15 0 0 0 3) := .sl (by simpa using r35) rfl (Nat.le_refl _)
   refine res_append0K (free := false) (d := (some 8)) (sz := 3) (bytes := 12) (x := .tmp 3) (y := .tmp 7) (by kernel_rfl) (S := .slice p15 0 0 0 3) (ys := ms) (by show E27 3 = _; exact b28) sx38 (.inr ⟨_, rfl⟩) (by show srcCells _ _ (E27 7) = _; rw [b29]; exact src_list hr.len (hS.grew g33)) (recs_one hr rfl) (by omega) ?_
   intro S36 H37 sS36 fS36 oS36
   have ne39 : ApartL (S36) p3 := fS36.apartL (H27.lt_of_get r34) (ApartL.of (by first | assumption | exact Apart.symm (by assumption)))
   have fr40 : FreshS H.next (S36) := fS36.fresh (FreshS.of_le op15) g33.next
   have g41 : Grew H H37 := Grew.trans g33 oS36
   have r42 := oS36.at r34
   have q44 := q1.app (.cons sS36.one .nil : KdsL [.one] [S36])
   refine run_mc (φ := φ0) (pm := pmR 1 [] 0) 20 (ws := [⟨p3, 0, [.lit .nilslice, .lit .nilslice], false⟩]) (env := [(7, n1 0), (13, n1 1), (2, .ptr 0 0), (8, n1 2)]) q44 (.cons (wR r42 q44) .nil) (sepOk_ro rfl) .nil (eC q44 (.cons (put_ne rfl b29) (.cons (put_ne rfl b30) (.cons (put_ne rfl b31) (.cons put_same .nil))))) tb_ok ap_ok ?_
   refine all1 (by kernel_rfl) ?_
   intro vs ls H45 E45 st hE
   obtain ⟨p46, e47, r48, n49⟩ := sl_of st.inn hE 9 1 0 0 6 (by kernel_rfl) (ds := []) (by kernel_rfl)
   have op46 : H.next ≤ p46 := Nat.le_trans g41.next (n49 (Nat.le_of_ble_eq_true rfl))
   have ne50 := apn r42 (n49 (Nat.le_of_ble_eq_true rfl))
   have ne51 : ApartL (S36) p46 := sS36.apart_new (n49 (Nat.le_of_ble_eq_true rfl))
   have b52 := eo st hE 13 Sk
   have b53 := eo st hE 8 S36
   have b54 := eo st hE 2 (.ptr p3 0)
   have g55 : Grew H37 H45 := (gk st)
   have g56 : Grew H H45 := Grew.trans g41 g55
   have r57 := g55.at r42
   have s58 := sS36.grew g55
   clear st hE vs ls
   have sx61 : SlF H45 6 [] (.slice p46 0 0 0 6) := .sl (by simpa using r48) rfl (Nat.le_refl _)
   refine res_append0K (free := true) (d := (some 14)) (sz := 6) (bytes := 32) (x := .tmp 9) (y := .tmp 13) (by kernel_rfl) (S := .slice p46 0 0 0 6) (ys := ks) (by show E45 9 = _; exact e47) sx61 (.inr ⟨_, rfl⟩) (by show srcCells _ _ (E45 13) = _; rw [b52]; exact src_list hrk.len (hSk.grew g56)) (recs_one hrk rfl) (by omega) ?_
   intro S59 H60 sS59 fS59 oS59
   have ne62 : ApartL (S59) p3 := fS59.apartL (H45.lt_of_get r57) (ApartL.of (by first | assumption | exact Apart.symm (by assumption)))
   have ne63 : ApartS (S59) (S36) := fS59.apartS s58.lt (ApartS.of (l := p46) (by assumption))
   have fr64 : FreshS H.next (S59) := fS59.fresh (FreshS.of_le op46) g56.next
   have g65 : Grew H H60 := Grew.trans g56 oS59
   have r66 := oS59.at r57
   have s68 := s58.grew oS59
   have q69 := q44.app (.cons sS59.one .nil : KdsL [.one] [S59])
   refine run_mc (φ := φ0) (pm := pmR 0 [] 0) 20 (ws := [⟨p3, 0, [.lit .nilslice, .lit .nilslice], true⟩]) (env := [(13, n1 1), (8, n1 2), (2, .ptr 0 0), (14, n1 3)]) q69 (.cons (wO r66 q69) .nil) (sepD (by repeat (first | exact .nil | refine .cons (by first | assumption | exact Apart.symm (by assumption)) ?_))) .nil (eC q69 (.cons (put_ne rfl b52) (.cons (put_ne rfl b53) (.cons (put_ne rfl b54) (.cons put_same .nil))))) tb_ok ap_ok ?_
   refine all1 (by kernel_rfl) ?_
   intro vs ls H70 E70 st hE
   have gz : Grew H H70 := (grew_own g65 (st.inn.kept) ⟨op3, trivial⟩)
   exact res_ex (by kernel_rfl) (end_same st.inn hE (.inr rfl) (a := .agg [S36, S59]) (by kernel_rfl) gz.next ⟨gz, _, _, rfl, (s68.keep st.inn.kept ⟨by assumption, trivial⟩), fr40, (sS59.keep st.inn.kept ⟨by assumption, trivial⟩), fr64, by first | assumption | exact ApartS.symm (by assumption)⟩)
  ·
   refine run_mc (φ := φ0) (pm := pmR 2 [] 0) 20 (ws := [⟨p3, 0, [.lit .nilslice, .lit .nilslice], false⟩, ⟨p15, 0, [], false⟩]) (env := [(3, .sl 1 0 0 0 3), (7, n1 0), (13, n1 1), (2, .ptr 0 0)]) q1 (.cons (wR r25 q1) (.cons (wR r17 q1) .nil)) (sepOk_ro rfl) .nil (eC q1 (.cons e16 (.cons b20 (.cons b21 (.cons b22 .nil))))) tb_ok ap_ok ?_
   refine all1 (by kernel_rfl) ?_
   intro vs ls H72 E72 st hE
   obtain ⟨p73, e74, r75, n76⟩ := sl_of st.inn hE 9 2 0 0 6 (by kernel_rfl) (ds := []) (by kernel_rfl)
   have op73 : H.next ≤ p73 := Nat.le_trans g24.next (n76 (Nat.le_of_ble_eq_true rfl))
   have ne77 := apn r25 (n76 (Nat.le_of_ble_eq_true rfl))
   have ne78 := apn r17 (n76 (Nat.le_of_ble_eq_true rfl))
   have b79 := eo st hE 3 (.slice p15 0 0 0 3)
   have b80 := eo st hE 7 S
   have b81 := eo st hE 13 Sk
   have b82 := eo st hE 2 (.ptr p3 0)
   have g83 : Grew H14 H72 := (gk st)
   have g84 : Grew H H72 := Grew.trans g24 g83
   have r85 := g83.at r25
   have r86 := g83.at r17
   clear st hE vs ls
   have sx89 : SlF H72 3 [] (.slice p15 0 0 0 3) := .sl (by simpa using r86) rfl (Nat.le_refl _)
   refine res_append0K (free := false) (d := (some 8)) (sz := 3) (bytes := 12) (x := .tmp 3) (y := .tmp 7) (by kernel_rfl) (S := .slice p15 0 0 0 3) (ys := ms) (by show E72 3 = _; exact b79) sx89 (.inr ⟨_, rfl⟩) (by show srcCells _ _ (E72 7) = _; rw [b80]; exact src_list hr.len (hS.grew g84)) (recs_one hr rfl) (by omega) ?_
   intro S87 H88 sS87 fS87 oS87
   have ne90 : ApartL (S87) p3 := fS87.apartL (H72.lt_of_get r85) (ApartL.of (by first | assumption | exact Apart.symm (by assumption)))
   have ne91 : ApartL (S87) p73 := fS87.apartL (H72.lt_of_get r75) (ApartL.of (by first | assumption | exact Apart.symm (by assumption)))
   have fr92 : FreshS H.next (S87) := fS87.fresh (FreshS.of_le op15) g84.next
   have g93 : Grew H H88 := Grew.trans g84 oS87
   have r94 := oS87.at r85
   have r96 := oS87.at r75
   have q97 := q1.app (.cons sS87.one .nil : KdsL [.one] [S87])
   refine run_mc (φ := φ0) (pm := pmR 2 [] 0) 20 (ws := [⟨p3, 0, [.lit .nilslice, .lit .nilslice], false⟩, ⟨p73, 0, [], false⟩]) (env := [(7, n1 0), (9, .sl 1 0 0 0 6), (13, n1 1), (2, .ptr 0 0), (8, n1 2)]) q97 (.cons (wR r94 q97) (.cons (wR r96 q97) .nil)) (sepOk_ro rfl) .nil (eC q97 (.cons (put_ne rfl b80) (.cons (put_ne rfl e74) (.cons (put_ne rfl b81) (.cons (put_ne rfl b82) (.cons put_same .nil)))))) tb_ok ap_ok ?_
   refine all1 (by kernel_rfl) ?_
   intro vs ls H98 E98 st hE
   have b99 := eo st hE 9 (.slice p73 0 0 0 6)
   have b100 := eo st hE 13 Sk
   have b101 := eo st hE 8 S87
   have b102 := eo st hE 2 (.ptr p3 0)
   have g103 : Grew H88 H98 := (gk st)
   have g104 : Grew H H98 := Grew.trans g93 g103
   have r105 := g103.at r94
   have r106 := g103.at r96
   have s107 := sS87.grew g103
   clear st hE vs ls
   have sx110 : SlF H98 6 [] (.slice p73 0 0 0 6) := .sl (by simpa using r106) rfl (Nat.le_refl _)
   refine res_append0K (free := true) (d := (some 14)) (sz := 6) (bytes := 32) (x := .tmp 9) (y := .tmp 13) (by kernel_rfl) (S := .slice p73 0 0 0 6) (ys := ks) (by show E98 9 = _; exact b99) sx110 (.inr ⟨_, rfl⟩) (by show srcCells _ _ (E98 13) = _; rw [b100]; exact src_list hrk.len (hSk.grew g104)) (recs_one hrk rfl) (by omega) ?_
   intro S108 H109 sS108 fS108 oS108
   have ne111 : ApartL (S108) p3 := fS108.apartL (H98.lt_of_get r105) (ApartL.of (by first | assumption | exact Apart.symm (by assumption)))
   have ne112 : ApartS (S108) (S87) := fS108.apartS s107.lt (ApartS.of (l := p73) (by assumption))
   have fr113 : FreshS H.next (S108) := fS108.fresh (FreshS.of_le op73) g104.next
   have g114 : Grew H H109 := Grew.trans g104 oS108
   have r115 := oS108.at r105
   have s117 := s107.grew oS108
   have q118 := q97.app (.cons sS108.one .nil : KdsL [.one] [S108])
   refine run_mc (φ := φ0) (pm := pmR 0 [] 0) 20 (ws := [⟨p3, 0, [.lit .nilslice, .lit .nilslice], true⟩]) (env := [(13, n1 1), (8, n1 2), (2, .ptr 0 0), (14, n1 3)]) q118 (.cons (wO r115 q118) .nil) (sepD (by repeat (first | exact .nil | refine .cons (by first | assumption | exact Apart.symm (by assumption)) ?_))) .nil (eC q118 (.cons (put_ne rfl b100) (.cons (put_ne rfl b101) (.cons (put_ne rfl b102) (.cons put_same .nil))))) tb_ok ap_ok ?_
   refine all1 (by kernel_rfl) ?_
   intro vs ls H119 E119 st hE
   have gz : Grew H H119 := (grew_own g114 (st.inn.kept) ⟨op3, trivial⟩)
   exact res_ex (by kernel_rfl) (end_same st.inn hE (.inr rfl) (a := .agg [S87, S108]) (by kernel_rfl) gz.next ⟨gz, _, _, rfl, (s117.keep st.inn.kept ⟨by assumption, trivial⟩), fr92, (sS108.keep st.inn.kept ⟨by assumption, trivial⟩), fr113, by first | assumption | exact ApartS.symm (by assumption)⟩)
 ·
  refine run_mc (φ := φ0) (pm := pmR 1 [] 0) 20 (ws := [⟨p3, 0, [.lit .nilslice, .lit .nilslice], false⟩]) (env := [(7, n1 0), (13, n1 1), (2, .ptr 0 0)]) q1 (.cons (wR r5 q1) .nil) (sepOk_ro rfl) .nil (eC q1 (.cons b8 (.cons b9 (.cons e4 .nil)))) tb_ok ap_ok ?_
  refine all1 (by kernel_rfl) ?_
  intro vs ls H121 E121 st hE
  obtain ⟨p122, e123, r124, n125⟩ := sl_of st.inn hE 3 2 0 0 3 (by kernel_rfl) (ds := []) (by kernel_rfl)
  have op122 : H.next ≤ p122 := Nat.le_trans g11.next (n125 (Nat.le_of_ble_eq_true rfl))
  obtain ⟨p126, e127, r128, n129⟩ := sl_of st.inn hE 9 1 0 0 6 (by kernel_rfl) (ds := []) (by kernel_rfl)
  have op126 : H.next ≤ p126 := Nat.le_trans g11.next (n129 (Nat.le_of_ble_eq_true rfl))
  have ne130 : Apart p122 p126 := ⟨row_ne st.inn hE 3 9 2 1 (v := .sl 2 0 0 0 3) (v' := .sl 1 0 0 0 6) (by kernel_rfl) (by kernel_rfl) rfl rfl (cs := []) (by kernel_rfl) (by decide) e123 e127 rfl rfl⟩
  have ne131 := apn r5 (n125 (Nat.le_of_ble_eq_true rfl))
  have ne132 := apn r5 (n129 (Nat.le_of_ble_eq_true rfl))
  have b133 := eo st hE 7 S
  have b134 := eo st hE 13 Sk
  have b135 := eo st hE 2 (.ptr p3 0)
  have g136 : Grew H2 H121 := (gk st)
  have g137 : Grew H H121 := Grew.trans g11 g136
  have r138 := g136.at r5
  clear st hE vs ls
  have sx141 : SlF H121 3 [] (.slice p122 0 0 0 3) := .sl (by simpa using r124) rfl (Nat.le_refl _)
  refine res_append0K (free := false) (d := (some 8)) (sz := 3) (bytes := 12) (x := .tmp 3) (y := .tmp 7) (by kernel_rfl) (S := .slice p122 0 0 0 3) (ys := ms) (by show E121 3 = _; exact e123) sx141 (.inr ⟨_, rfl⟩) (by show srcCells _ _ (E121 7) = _; rw [b133]; exact src_list hr.len (hS.grew g137)) (recs_one hr rfl) (by omega) ?_
  intro S139 H140 sS139 fS139 oS139
  have ne142 : ApartL (S139) p3 := fS139.apartL (H121.lt_of_get r138) (ApartL.of (by first | assumption | exact Apart.symm (by assumption)))
  have ne143 : ApartL (S139) p126 := fS139.apartL (H121.lt_of_get r128) (ApartL.of (by first | assumption | exact Apart.symm (by assumption)))
  have fr144 : FreshS H.next (S139) := fS139.fresh (FreshS.of_le op122) g137.next
  have g145 : Grew H H140 := Grew.trans g137 oS139
  have r146 := oS139.at r138
  have r148 := oS139.at r128
  have q149 := q1.app (.cons sS139.one .nil : KdsL [.one] [S139])
  refine run_mc (φ := φ0) (pm := pmR 2 [] 0) 20 (ws := [⟨p3, 0, [.lit .nilslice, .lit .nilslice], false⟩, ⟨p126, 0, [], false⟩]) (env := [(7, n1 0), (9, .sl 1 0 0 0 6), (13, n1 1), (2, .ptr 0 0), (8, n1 2)]) q149 (.cons (wR r146 q149) (.cons (wR r148 q149) .nil)) (sepOk_ro rfl) .nil (eC q149 (.cons (put_ne rfl b133) (.cons (put_ne rfl e127) (.cons (put_ne rfl b134) (.cons (put_ne rfl b135) (.cons put_same .nil)))))) tb_ok ap_ok ?_
  refine all1 (by kernel_rfl) ?_
  intro vs ls H150 E150 st hE
  have b151 := eo st hE 9 (.slice p126 0 0 0 6)
  have b152 := eo st hE 13 Sk
  have b153 := eo st hE 8 S139
  have b154 := eo st hE 2 (.ptr p3 0)
  have g155 : Grew H140 H150 := (gk st)
  have g156 : Grew H H150 := Grew.trans g145 g155
  have r157 := g155.at r146
  have r158 := g155.at r148
  have s159 := sS139.grew g155
  clear st hE vs ls
  have sx162 : SlF H150 6 [] (.slice p126 0 0 0 6) := .sl (by simpa using r158) rfl (Nat.le_refl _)
  refine res_append0K (free := true) (d := (some 14)) (sz := 6) (bytes := 32) (x := .tmp 9) (y := .tmp 13) (by kernel_rfl) (S := .slice p126 0 0 0 6) (ys := ks) (by show E150 9 = _; exact b151) sx162 (.inr ⟨_, rfl⟩) (by show srcCells _ _ (E150 13) = _; rw [b152]; exact src_list hrk.len (hSk.grew g156)) (recs_one hrk rfl) (by omega) ?_
  intro S160 H161 sS160 fS160 oS160
  have ne163 : ApartL (S160) p3 := fS160.apartL (H150.lt_of_get r157) (ApartL.of (by first | assumption | exact Apart.symm (by assumption)))
  have ne164 : ApartS (S160) (S139) := fS160.apartS s159.lt (ApartS.of (l := p126) (by assumption))
  have fr165 : FreshS H.next (S160) := fS160.fresh (FreshS.of_le op126) g156.next
  have g166 : Grew H H161 := Grew.trans g156 oS160
  have r167 := oS160.at r157
  have s169 := s159.grew oS160
  have q170 := q149.app (.cons sS160.one .nil : KdsL [.one] [S160])
  refine run_mc (φ := φ0) (pm := pmR 0 [] 0) 20 (ws := [⟨p3, 0, [.lit .nilslice, .lit .nilslice], true⟩]) (env := [(13, n1 1), (8, n1 2), (2, .ptr 0 0), (14, n1 3)]) q170 (.cons (wO r167 q170) .nil) (sepD (by repeat (first | exact .nil | refine .cons (by first | assumption | exact Apart.symm (by assumption)) ?_))) .nil (eC q170 (.cons (put_ne rfl b152) (.cons (put_ne rfl b153) (.cons (put_ne rfl b154) (.cons put_same .nil))))) tb_ok ap_ok ?_
  refine all1 (by kernel_rfl) ?_
  intro vs ls H171 E171 st hE
  have gz : Grew H H171 := (grew_own g166 (st.inn.kept) ⟨op3, trivial⟩)
  exact res_ex (by kernel_rfl) (end_same st.inn hE (.inr rfl) (a := .agg [S139, S160]) (by kernel_rfl) gz.next ⟨gz, _, _, rfl, (s169.keep st.inn.kept ⟨by assumption, trivial⟩), fr144, (sS160.keep st.inn.kept ⟨by assumption, trivial⟩), fr165, by first | assumption | exact ApartS.symm (by assumption)⟩)
end Go.Proofs.Ytcmoeocemmeofaa
