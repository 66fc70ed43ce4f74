/- Contracts: a link more, by both. -/
import Derived.Test.YtcmoeocemmeofaaTAddLinkB
set_option linter.unusedVariables false
set_option linter.unusedSimpArgs false
namespace Go.Proofs.Ytcmoeocemmeofaa
open Go.Ab
set_option maxRecDepth 100000
set_option maxHeartbeats 1000000
attribute [local irreducible] Res
open Classical in
noncomputable def addK (ms ks : List (List AV)) (x : List AV) : List (List AV) × List (List AV) × Int :=
  if okG ms ks = false then ([], [], 1) else if okK ms.length x = false then ([], [], 2) else if ks.length = 120 then ([], [], 3) else (ms, ks ++ [x], 0)
theorem k_impl_AddLink (H : AHeap) (ms : List (List AV)) (hr : Recs KP ms) (S : AV) (hS : SlL H 3 ms S) (mxms : ms.length ≤ 1048576) (ks : List (List AV)) (hrk : Recs KL ks) (Sk : AV) (hSk : SlL H 6 ks Sk) (mxks : ks.length ≤ 1048576) (v0 v1 : Int) (v2 v3 v4 v5 : Option Nat) (o2 : fOk .f32 v2) (o3 : fOk .f32 v3) (o4 : fOk .f32 v4) (o5 : fOk .f32 v5) : ACalls Try.prog 77 [.agg [S, Sk], .agg [.int .i64 v0, .int .i64 v1, .flt .f32 v2, .flt .f32 v3, .flt .f32 v4, .flt .f32 v5]] H fun r H' => Grew H H' ∧ ∃ S' Sk', r = .tuple [.agg [S', Sk'], .int .i64 (addK ms ks [.int .i64 v0, .int .i64 v1, .flt .f32 v2, .flt .f32 v3, .flt .f32 v4, .flt .f32 v5]).2.2] ∧ SlW H' 3 (addK ms ks [.int .i64 v0, .int .i64 v1, .flt .f32 v2, .flt .f32 v3, .flt .f32 v4, .flt .f32 v5]).1 S' ∧ FreshS H.next S' ∧ SlW H' 6 (addK ms ks [.int .i64 v0, .int .i64 v1, .flt .f32 v2, .flt .f32 v3, .flt .f32 v4, .flt .f32 v5]).2.1 Sk' ∧ FreshS H.next Sk' ∧ ApartS S' Sk' := by
  refine res_start h_impl_AddLink (by simp) ?_
  refine run_mn (φ := φ0) (pm := pmR 0 [(.call 64 [.agg [.nd 0 .one, .nd 1 .one]], .nd 8 .bool), (.len (.nd 0 .one), .nd 9 (.int .i64)), (.call 99 [.agg [.nd 2 (.int .i64), .nd 3 (.int .i64), .nd 4 (.flt .f32), .nd 5 (.flt .f32), .nd 6 (.flt .f32), .nd 7 (.flt .f32)], .nd 9 (.int .i64)], .nd 10 .bool), (.len (.nd 1 .one), .nd 11 (.int .i64))] 0) 20 (nk := [(.atom 0, .one), (.atom 1, .one), (.atom 2, .int .i64), (.atom 3, .int .i64), (.atom 4, .flt .f32), (.atom 5, .flt .f32), (.atom 6, .flt .f32), (.atom 7, .flt .f32), (.atom 8, .bool), (.atom 9, .int .i64), (.atom 10, .bool), (.atom 11, .int .i64)]) (fs := []) (xs := [S, Sk, .int .i64 v0, .int .i64 v1, .flt .f32 v2, .flt .f32 v3, .flt .f32 v4, .flt .f32 v5, .bool (okG ms ks), .int .i64 (ms.length : Int), .bool (okK ms.length [.int .i64 v0, .int .i64 v1, .flt .f32 v2, .flt .f32 v3, .flt .f32 v4, .flt .f32 v5]), .int .i64 (ks.length : Int)]) (ws := []) (env := [(0, .agg [.nd 0 .one, .nd 1 .one]), (1, .agg [.nd 2 (.int .i64), .nd 3 (.int .i64), .nd 4 (.flt .f32), .nd 5 (.flt .f32), .nd 6 (.flt .f32), .nd 7 (.flt .f32)])]) ?_ ?_ tb_ok ap_ok ?_
  · refine midN_in ?_ .nil _ ?_ ?_ ?_
    · exact (.cons rfl (slOne hS) (.cons rfl (slOne hSk) (.cons rfl ⟨_, rfl⟩ (.cons rfl ⟨_, rfl⟩ (.cons rfl ⟨_, rfl, o2⟩ (.cons rfl ⟨_, rfl, o3⟩ (.cons rfl ⟨_, rfl, o4⟩ (.cons rfl ⟨_, rfl, o5⟩ (.cons rfl ⟨_, rfl⟩ (.cons rfl ⟨_, rfl⟩ (.cons rfl ⟨_, rfl⟩ (.cons rfl ⟨_, rfl⟩ .nil))))))))))))
    · exact .nil
    · exact sepOk_ro rfl
    · exact (.cons (rule_call (args := [.agg [S, Sk]]) (dlCons (dAgg (dlCons (dNd rfl (slOne hS)) (dlCons (dNd rfl (slOne hSk)) dlNil))) dlNil) (dNd rfl ⟨_, rfl⟩) (fun H9 hk => k_impl_ValidGraph H9 ms hr S (hS.grew (Grew.trans (Grew.refl _) (hk.grew (Nat.le_refl _)))) (mx40 mxms) ks hrk Sk (hSk.grew (Grew.trans (Grew.refl _) (hk.grew (Nat.le_refl _)))) (mx40 mxks))) (.cons (⟨_, _, (dNd rfl (slOne hS)), (dNd rfl ⟨_, rfl⟩), slLen hS⟩) (.cons (rule_call (args := [.agg [.int .i64 v0, .int .i64 v1, .flt .f32 v2, .flt .f32 v3, .flt .f32 v4, .flt .f32 v5], .int .i64 (ms.length : Int)]) (dlCons (dAgg (dlCons (dNd rfl ⟨_, rfl⟩) (dlCons (dNd rfl ⟨_, rfl⟩) (dlCons (dNd rfl ⟨_, rfl, o2⟩) (dlCons (dNd rfl ⟨_, rfl, o3⟩) (dlCons (dNd rfl ⟨_, rfl, o4⟩) (dlCons (dNd rfl ⟨_, rfl, o5⟩) dlNil))))))) (dlCons (dNd rfl ⟨_, rfl⟩) dlNil)) (dNd rfl ⟨_, rfl⟩) (fun H9 hk => k_validLink ms.length (mx40 mxms) v0 v1 v2 v3 v4 v5 o2 o3 o4 o5 H9)) (.cons (⟨_, _, (dNd rfl (slOne hSk)), (dNd rfl ⟨_, rfl⟩), slLen hSk⟩) .nil))))
  · exact (envEq rfl (dAgg (dlCons (dNd rfl (slOne hS)) (dlCons (dNd rfl (slOne hSk)) dlNil))) (envEq rfl (dAgg (dlCons (dNd rfl ⟨_, rfl⟩) (dlCons (dNd rfl ⟨_, rfl⟩) (dlCons (dNd rfl ⟨_, rfl, o2⟩) (dlCons (dNd rfl ⟨_, rfl, o3⟩) (dlCons (dNd rfl ⟨_, rfl, o4⟩) (dlCons (dNd rfl ⟨_, rfl, o5⟩) dlNil))))))) envNil))
  refine all4 (by kernel_rfl) ?_ ?_ ?_ ?_
  ·
    intro vs ls H1 E1 st hE
    have f2 : (okG ms ks) = false := bfact st.inn 0 (by kernel_rfl)
    have gz : Grew H H1 := (Grew.trans (Grew.refl _) (st.kept.grew (Nat.le_of_ble_eq_true (by kernel_rfl))))
    have hc : addK ms ks [.int .i64 v0, .int .i64 v1, .flt .f32 v2, .flt .f32 v3, .flt .f32 v4, .flt .f32 v5] = ([], [], 1) := by unfold addK; simp [f2]
    exact res_ex (by kernel_rfl) (end_same st.inn hE (.inr rfl) (a := .tuple [.agg [.nilslice, .nilslice], .int .i64 1]) (by kernel_rfl) gz.next (by rw [hc]; exact ⟨gz, _, _, rfl, (.nil rfl), FreshS.nil, (.nil rfl), FreshS.nil, ApartS.nil⟩))
  ·
    intro vs ls H3 E3 st hE
    have f4 : (okK ms.length [.int .i64 v0, .int .i64 v1, .flt .f32 v2, .flt .f32 v3, .flt .f32 v4, .flt .f32 v5]) = false := bfact st.inn 0 (by kernel_rfl)
    have f5 : (okG ms ks) = true := bfact st.inn 1 (by kernel_rfl)
    have gz : Grew H H3 := (Grew.trans (Grew.refl _) (st.kept.grew (Nat.le_of_ble_eq_true (by kernel_rfl))))
    have hc : addK ms ks [.int .i64 v0, .int .i64 v1, .flt .f32 v2, .flt .f32 v3, .flt .f32 v4, .flt .f32 v5] = ([], [], 2) := by unfold addK; simp [f5, f4]
    exact res_ex (by kernel_rfl) (end_same st.inn hE (.inr rfl) (a := .tuple [.agg [.nilslice, .nilslice], .int .i64 2]) (by kernel_rfl) gz.next (by rw [hc]; exact ⟨gz, _, _, rfl, (.nil rfl), FreshS.nil, (.nil rfl), FreshS.nil, ApartS.nil⟩))
  ·
    intro vs ls H6 E6 st hE
    have f7 : (ks.length : Int) = 120 := of_decide_eq_true (bfact (x := decide ((ks.length : Int) = 120)) st.inn 0 (by kernel_rfl))
    have f8 : (okK ms.length [.int .i64 v0, .int .i64 v1, .flt .f32 v2, .flt .f32 v3, .flt .f32 v4, .flt .f32 v5]) = true := bfact st.inn 1 (by kernel_rfl)
    have f9 : (okG ms ks) = true := bfact st.inn 2 (by kernel_rfl)
    have gz : Grew H H6 := (Grew.trans (Grew.refl _) (st.kept.grew (Nat.le_of_ble_eq_true (by kernel_rfl))))
    have hz : ks.length = 120 := by omega
    have hc : addK ms ks [.int .i64 v0, .int .i64 v1, .flt .f32 v2, .flt .f32 v3, .flt .f32 v4, .flt .f32 v5] = ([], [], 3) := by unfold addK; simp [f9, f8, hz]
    exact res_ex (by kernel_rfl) (end_same st.inn hE (.inr rfl) (a := .tuple [.agg [.nilslice, .nilslice], .int .i64 3]) (by kernel_rfl) gz.next (by rw [hc]; exact ⟨gz, _, _, rfl, (.nil rfl), FreshS.nil, (.nil rfl), FreshS.nil, ApartS.nil⟩))
  ·
    intro vs ls H10 E10 st hE
    have f11 : ¬ ((ks.length : Int) = 120) := of_decide_eq_false (bfact (x := decide ((ks.length : Int) = 120)) st.inn 0 (by kernel_rfl))
    have f12 : (okK ms.length [.int .i64 v0, .int .i64 v1, .flt .f32 v2, .flt .f32 v3, .flt .f32 v4, .flt .f32 v5]) = true := bfact st.inn 1 (by kernel_rfl)
    have f13 : (okG ms ks) = true := bfact st.inn 2 (by kernel_rfl)
    obtain ⟨p14, e15, r16, n17⟩ := ptr_of st.inn hE 3 1 (by kernel_rfl) (ds := [.int .i64 v0, .int .i64 v1, .flt .f32 v2, .flt .f32 v3, .flt .f32 v4, .flt .f32 v5]) (by kernel_rfl)
    have op14 : H.next ≤ p14 := Nat.le_trans (Nat.le_refl _) (n17 (Nat.le_of_ble_eq_true rfl))
    obtain ⟨p18, e19, r20, n21⟩ := ptr_of st.inn hE 4 2 (by kernel_rfl) (ds := [.nilslice, .nilslice]) (by kernel_rfl)
    have op18 : H.next ≤ p18 := Nat.le_trans (Nat.le_refl _) (n21 (Nat.le_of_ble_eq_true rfl))
    have ne22 : Apart p14 p18 := ⟨ptr_ne st.inn hE 3 1 4 2 (by kernel_rfl) (by kernel_rfl) (cs := [.nd 2 (.int .i64), .nd 3 (.int .i64), .nd 4 (.flt .f32), .nd 5 (.flt .f32), .nd 6 (.flt .f32), .nd 7 (.flt .f32)]) (by kernel_rfl) (by decide) e15 e19⟩
    have b23 : E10 26 = .agg [S, Sk] := env_of st.inn hE 26 (by kernel_rfl)
    have g24 : Grew H H10 := (st.kept.grew (Nat.le_of_ble_eq_true (by kernel_rfl)))
    have g25 : Grew H H10 := Grew.trans (Grew.refl _) g24
    clear st hE vs ls
    refine res_call (d := (some 27)) (f := 80) (args := [.tmp 26]) (by kernel_rfl) (R := fun z H' => Grew H10 H' ∧ ∃ S0' S1', z = .agg [S0', S1'] ∧ SlF H' 3 ms S0' ∧ FreshS H10.next S0' ∧ SlF H' 6 ks S1' ∧ FreshS H10.next S1' ∧ ApartS S0' S1') ?_ ?_
    · show ACalls _ _ [E10 26] _ _
      rw [b23]
      exact k_ownGraph H10 ms hr S (hS.grew g25) mxms ks hrk Sk (hSk.grew g25) mxks
    rintro z H26 ⟨gH26, S27, S28, rfl, sS27, fS27, sS28, fS28, ap29⟩
    have ne30 : ApartL (S27) p14 := fS27.apartL (H10.lt_of_get r16)
    have ne31 : ApartL (S27) p18 := fS27.apartL (H10.lt_of_get r20)
    have fr32 : FreshS H.next (S27) := fS27.mono g25.next
    have ne33 : ApartL (S28) p14 := fS28.apartL (H10.lt_of_get r16)
    have ne34 : ApartL (S28) p18 := fS28.apartL (H10.lt_of_get r20)
    have fr35 : FreshS H.next (S28) := fS28.mono g25.next
    have g36 : Grew H H26 := Grew.trans g25 gH26
    have r37 := gH26.at r16
    have r38 := gH26.at r20
    refine run_mn (φ := φ0) (pm := pmR 2 [] 0) 20 (nk := [(.atom 0, .one), (.atom 1, .one), (.atom 2, .int .i64), (.atom 3, .int .i64), (.atom 4, .flt .f32), (.atom 5, .flt .f32), (.atom 6, .flt .f32), (.atom 7, .flt .f32), (.atom 8, .bool), (.atom 9, .int .i64), (.atom 10, .bool), (.atom 11, .int .i64), (.atom 12, .one), (.atom 13, .one)]) (fs := []) (xs := [S, Sk, .int .i64 v0, .int .i64 v1, .flt .f32 v2, .flt .f32 v3, .flt .f32 v4, .flt .f32 v5, .bool (okG ms ks), .int .i64 (ms.length : Int), .bool (okK ms.length [.int .i64 v0, .int .i64 v1, .flt .f32 v2, .flt .f32 v3, .flt .f32 v4, .flt .f32 v5]), .int .i64 (ks.length : Int), S27, S28]) (ws := [⟨p14, 0, [.nd 2 (.int .i64), .nd 3 (.int .i64), .nd 4 (.flt .f32), .nd 5 (.flt .f32), .nd 6 (.flt .f32), .nd 7 (.flt .f32)], false⟩, ⟨p18, 0, [.lit .nilslice, .lit .nilslice], false⟩]) (env := [(26, .agg [.nd 0 .one, .nd 1 .one]), (3, .ptr 0 0), (4, .ptr 1 0), (27, .agg [.nd 12 .one, .nd 13 .one])]) ?_ ?_ tb_ok ap_ok ?_
    · refine midN_in ?_ .nil _ ?_ ?_ ?_
      · exact (.cons rfl (slOne hS) (.cons rfl (slOne hSk) (.cons rfl ⟨_, rfl⟩ (.cons rfl ⟨_, rfl⟩ (.cons rfl ⟨_, rfl, o2⟩ (.cons rfl ⟨_, rfl, o3⟩ (.cons rfl ⟨_, rfl, o4⟩ (.cons rfl ⟨_, rfl, o5⟩ (.cons rfl ⟨_, rfl⟩ (.cons rfl ⟨_, rfl⟩ (.cons rfl ⟨_, rfl⟩ (.cons rfl ⟨_, rfl⟩ (.cons rfl sS27.one (.cons rfl sS28.one .nil))))))))))))))
      · exact (.cons (win_row r37 (dlCons (dNd rfl ⟨_, rfl⟩) (dlCons (dNd rfl ⟨_, rfl⟩) (dlCons (dNd rfl ⟨_, rfl, o2⟩) (dlCons (dNd rfl ⟨_, rfl, o3⟩) (dlCons (dNd rfl ⟨_, rfl, o4⟩) (dlCons (dNd rfl ⟨_, rfl, o5⟩) dlNil))))))) (.cons (win_row r38 (dlCons (dLit rfl) (dlCons (dLit rfl) dlNil))) .nil))
      · exact sepOk_ro rfl
      · exact .nil
    · exact (envEq (put_ne rfl b23) (dAgg (dlCons (dNd rfl (slOne hS)) (dlCons (dNd rfl (slOne hSk)) dlNil))) (envEq (put_ne rfl e15) (dPtr (l := p14) (o := 0) rfl) (envEq (put_ne rfl e19) (dPtr (l := p18) (o := 0) rfl) (envEq put_same (dAgg (dlCons (dNd rfl sS27.one) (dlCons (dNd rfl sS28.one) dlNil))) envNil))))
    refine all1 (by kernel_rfl) ?_
    intro vs ls H39 E39 st hE
    obtain ⟨p40, e41, r42, n43⟩ := sl_of st.inn hE 31 3 1 1 6 (by kernel_rfl) (ds := [.int .i64 v0, .int .i64 v1, .flt .f32 v2, .flt .f32 v3, .flt .f32 v4, .flt .f32 v5]) (by kernel_rfl)
    have op40 : H.next ≤ p40 := Nat.le_trans g36.next (n43 (Nat.le_of_ble_eq_true rfl))
    obtain ⟨p44, e45, r46, n47⟩ := ptr_of st.inn hE 6 2 (by kernel_rfl) (ds := [S27, S28]) (by kernel_rfl)
    have op44 : H.next ≤ p44 := Nat.le_trans g36.next (n47 (Nat.le_of_ble_eq_true rfl))
    have ne48 : Apart p40 p44 := ⟨row_ne st.inn hE 31 6 3 2 (v := .sl 3 0 1 1 6) (v' := .ptr 2 0) (by kernel_rfl) (by kernel_rfl) rfl rfl (cs := [.nd 2 (.int .i64), .nd 3 (.int .i64), .nd 4 (.flt .f32), .nd 5 (.flt .f32), .nd 6 (.flt .f32), .nd 7 (.flt .f32)]) (by kernel_rfl) (by decide) e41 e45 rfl rfl⟩
    have ne49 : Apart p40 p14 := ⟨Nat.ne_of_gt (Nat.lt_of_lt_of_le (H26.lt_of_get r37) (n43 (Nat.le_of_ble_eq_true rfl)))⟩
    have ne50 : Apart p40 p18 := ⟨Nat.ne_of_gt (Nat.lt_of_lt_of_le (H26.lt_of_get r38) (n43 (Nat.le_of_ble_eq_true rfl)))⟩
    have ne51 : ApartL (S27) p40 := sS27.apart_new (n43 (Nat.le_of_ble_eq_true rfl))
    have ne52 : ApartL (S28) p40 := sS28.apart_new (n43 (Nat.le_of_ble_eq_true rfl))
    have ne53 : Apart p44 p14 := ⟨Nat.ne_of_gt (Nat.lt_of_lt_of_le (H26.lt_of_get r37) (n47 (Nat.le_of_ble_eq_true rfl)))⟩
    have ne54 : Apart p44 p18 := ⟨Nat.ne_of_gt (Nat.lt_of_lt_of_le (H26.lt_of_get r38) (n47 (Nat.le_of_ble_eq_true rfl)))⟩
    have ne55 : ApartL (S27) p44 := sS27.apart_new (n47 (Nat.le_of_ble_eq_true rfl))
    have ne56 : ApartL (S28) p44 := sS28.apart_new (n47 (Nat.le_of_ble_eq_true rfl))
    have b57 : E39 29 = S28 := env_of st.inn hE 29 (by kernel_rfl)
    have b58 : E39 4 = .ptr p18 0 := env_of st.inn hE 4 (by kernel_rfl)
    have g59 : Grew H26 H39 := (st.kept.grew (Nat.le_of_ble_eq_true (by kernel_rfl)))
    have g60 : Grew H H39 := Grew.trans g36 g59
    have r61 := g59.at r37
    have r62 := g59.at r38
    have s63 := sS27.grew g59
    have s64 := sS28.grew g59
    clear st hE vs ls
    refine res_append (d := (some 32)) (sz := 6) (bytes := 32) (x := .tmp 29) (y := .tmp 31) (by kernel_rfl) (S := S28) (ms := ks) (ys := [[.int .i64 v0, .int .i64 v1, .flt .f32 v2, .flt .f32 v3, .flt .f32 v4, .flt .f32 v5]]) (by show E39 29 = _; exact b57) s64 hrk.len (by show srcCells _ _ (E39 31) = _; rw [e41]; exact src_one r42 rfl) (recs_one (ks := KL) (Recs.one (ks := KL) (.cons ⟨_, rfl⟩ (.cons ⟨_, rfl⟩ (.cons ⟨_, rfl, o2⟩ (.cons ⟨_, rfl, o3⟩ (.cons ⟨_, rfl, o4⟩ (.cons ⟨_, rfl, o5⟩ .nil))))))) rfl) (by show (2 * (ks.length + 1) + 192) * 32 ≤ 281474976710656; omega) ?_
    intro S65 H66 sS65 fS65 oS65
    have ne67 : ApartL (S65) p18 := fS65.apartL (H39.lt_of_get r62) (by assumption)
    have ne68 : ApartL (S65) p40 := fS65.apartL (H39.lt_of_get r42) (by assumption)
    have ne69 : ApartL (S65) p44 := fS65.apartL (H39.lt_of_get r46) (by assumption)
    have ne70 : ApartS (S65) (S27) := fS65.apartS s63.lt (by first | assumption | exact ApartS.symm (by assumption))
    have fr71 : FreshS H.next (S65) := fS65.fresh fr35 g60.next
    have g72 : Grew H H66 := OnlyS.own g60 fr35 oS65
    have r73 := oS65.at r62 (by assumption)
    have r74 := oS65.at r42 (by assumption)
    have r75 := oS65.at r46 (by assumption)
    have s76 := s63.only oS65 (ApartS.symm (by first | assumption | exact ApartS.symm (by assumption)))
    refine run_mn (φ := φ0) (pm := pmR 1 [] 0) 20 (nk := [(.atom 0, .one), (.atom 1, .one), (.atom 2, .int .i64), (.atom 3, .int .i64), (.atom 4, .flt .f32), (.atom 5, .flt .f32), (.atom 6, .flt .f32), (.atom 7, .flt .f32), (.atom 8, .bool), (.atom 9, .int .i64), (.atom 10, .bool), (.atom 11, .int .i64), (.atom 12, .one), (.atom 13, .one), (.atom 14, .one)]) (fs := []) (xs := [S, Sk, .int .i64 v0, .int .i64 v1, .flt .f32 v2, .flt .f32 v3, .flt .f32 v4, .flt .f32 v5, .bool (okG ms ks), .int .i64 (ms.length : Int), .bool (okK ms.length [.int .i64 v0, .int .i64 v1, .flt .f32 v2, .flt .f32 v3, .flt .f32 v4, .flt .f32 v5]), .int .i64 (ks.length : Int), S27, S28, S65]) (ws := [⟨p40, 0, [.nd 2 (.int .i64), .nd 3 (.int .i64), .nd 4 (.flt .f32), .nd 5 (.flt .f32), .nd 6 (.flt .f32), .nd 7 (.flt .f32)], false⟩, ⟨p44, 0, [.nd 12 .one, .nd 13 .one], true⟩, ⟨p18, 0, [.lit .nilslice, .lit .nilslice], true⟩]) (env := [(29, .nd 13 .one), (31, .sl 0 0 1 1 6), (6, .ptr 1 0), (4, .ptr 2 0), (32, .nd 14 .one)]) ?_ ?_ tb_ok ap_ok ?_
    · refine midN_in ?_ .nil _ ?_ ?_ ?_
      · exact (.cons rfl (slOne hS) (.cons rfl (slOne hSk) (.cons rfl ⟨_, rfl⟩ (.cons rfl ⟨_, rfl⟩ (.cons rfl ⟨_, rfl, o2⟩ (.cons rfl ⟨_, rfl, o3⟩ (.cons rfl ⟨_, rfl, o4⟩ (.cons rfl ⟨_, rfl, o5⟩ (.cons rfl ⟨_, rfl⟩ (.cons rfl ⟨_, rfl⟩ (.cons rfl ⟨_, rfl⟩ (.cons rfl ⟨_, rfl⟩ (.cons rfl sS27.one (.cons rfl sS28.one (.cons rfl sS65.one .nil)))))))))))))))
      · exact (.cons (win_row r74 (dlCons (dNd rfl ⟨_, rfl⟩) (dlCons (dNd rfl ⟨_, rfl⟩) (dlCons (dNd rfl ⟨_, rfl, o2⟩) (dlCons (dNd rfl ⟨_, rfl, o3⟩) (dlCons (dNd rfl ⟨_, rfl, o4⟩) (dlCons (dNd rfl ⟨_, rfl, o5⟩) dlNil))))))) (.cons (win_own r75 (dlCons (dNd rfl sS27.one) (dlCons (dNd rfl sS28.one) dlNil))) (.cons (win_own r73 (dlCons (dLit rfl) (dlCons (dLit rfl) dlNil))) .nil)))
      · exact ⟨(fun v hv h => (by simp at hv; rcases hv with rfl | rfl <;> first | (simp at h; done) | exact Apart.ne (by assumption) | exact (Apart.ne (by assumption)).symm)), ⟨(fun v hv h => (by simp at hv; rcases hv with rfl <;> first | (simp at h; done) | exact Apart.ne (by assumption) | exact (Apart.ne (by assumption)).symm)), ⟨(fun v hv => (by cases hv)), trivial⟩⟩⟩
      · exact .nil
    · exact (envEq (put_ne rfl b57) (dNd rfl sS28.one) (envEq (put_ne rfl e41) (dSl' (l := p40) (o := 0) rfl) (envEq (put_ne rfl e45) (dPtr (l := p44) (o := 0) rfl) (envEq (put_ne rfl b58) (dPtr (l := p18) (o := 0) rfl) (envEq put_same (dNd rfl sS65.one) envNil)))))
    refine all1 (by kernel_rfl) ?_
    intro vs ls H77 E77 st hE
    have gz : Grew H H77 := (grew_own g72 (st.inn.kept) ⟨op44, ⟨op18, trivial⟩⟩)
    have hz : ¬ ks.length = 120 := by omega
    have hc : addK ms ks [.int .i64 v0, .int .i64 v1, .flt .f32 v2, .flt .f32 v3, .flt .f32 v4, .flt .f32 v5] = (ms, (ks ++ [[.int .i64 v0, .int .i64 v1, .flt .f32 v2, .flt .f32 v3, .flt .f32 v4, .flt .f32 v5]]), 0) := by unfold addK; simp [f13, f12, hz]
    exact res_ex (by kernel_rfl) (end_same st.inn hE (.inr rfl) (a := .tuple [.agg [S27, S65], .int .i64 0]) (by kernel_rfl) gz.next (by rw [hc]; exact ⟨gz, _, _, rfl, ((s76.keep st.inn.kept ⟨by assumption, ⟨by assumption, trivial⟩⟩)).toW, fr32, ((sS65.keep st.inn.kept ⟨by assumption, ⟨by assumption, trivial⟩⟩)).toW, fr71, (by first | assumption | exact ApartS.symm (by assumption))⟩))
theorem k_spec_AddLink (H : AHeap) (ms : List (List AV)) (hr : Recs KP ms) (S : AV) (hS : SlL H 3 ms S) (mxms : ms.length ≤ 1048576) (ks : List (List AV)) (hrk : Recs KL ks) (Sk : AV) (hSk : SlL H 6 ks Sk) (mxks : ks.length ≤ 1048576) (v0 v1 : Int) (v2 v3 v4 v5 : Option Nat) (o2 : fOk .f32 v2) (o3 : fOk .f32 v3) (o4 : fOk .f32 v4) (o5 : fOk .f32 v5) : ACalls Try.prog 76 [.agg [S, Sk], .agg [.int .i64 v0, .int .i64 v1, .flt .f32 v2, .flt .f32 v3, .flt .f32 v4, .flt .f32 v5]] H fun r H' => Grew H H' ∧ ∃ S' Sk', r = .tuple [.agg [S', Sk'], .int .i64 (addK ms ks [.int .i64 v0, .int .i64 v1, .flt .f32 v2, .flt .f32 v3, .flt .f32 v4, .flt .f32 v5]).2.2] ∧ SlW H' 3 (addK ms ks [.int .i64 v0, .int .i64 v1, .flt .f32 v2, .flt .f32 v3, .flt .f32 v4, .flt .f32 v5]).1 S' ∧ FreshS H.next S' ∧ SlW H' 6 (addK ms ks [.int .i64 v0, .int .i64 v1, .flt .f32 v2, .flt .f32 v3, .flt .f32 v4, .flt .f32 v5]).2.1 Sk' ∧ FreshS H.next Sk' ∧ ApartS S' Sk' := by
  refine res_start h_spec_AddLink (by simp) ?_
  refine run_mn (φ := φ0) (pm := pmR 0 [] 0) 20 (nk := [(.atom 0, .one), (.atom 1, .one), (.atom 2, .int .i64), (.atom 3, .int .i64), (.atom 4, .flt .f32), (.atom 5, .flt .f32), (.atom 6, .flt .f32), (.atom 7, .flt .f32), (.atom 8, .bool), (.atom 9, .int .i64), (.atom 10, .bool), (.atom 11, .int .i64)]) (fs := []) (xs := [S, Sk, .int .i64 v0, .int .i64 v1, .flt .f32 v2, .flt .f32 v3, .flt .f32 v4, .flt .f32 v5, .bool (okG ms ks), .int .i64 (ms.length : Int), .bool (okK ms.length [.int .i64 v0, .int .i64 v1, .flt .f32 v2, .flt .f32 v3, .flt .f32 v4, .flt .f32 v5]), .int .i64 (ks.length : Int)]) (ws := []) (env := [(0, .agg [.nd 0 .one, .nd 1 .one]), (1, .agg [.nd 2 (.int .i64), .nd 3 (.int .i64), .nd 4 (.flt .f32), .nd 5 (.flt .f32), .nd 6 (.flt .f32), .nd 7 (.flt .f32)])]) ?_ ?_ tb_ok ap_ok ?_
  · refine midN_in ?_ .nil _ ?_ ?_ ?_
    · exact (.cons rfl (slOne hS) (.cons rfl (slOne hSk) (.cons rfl ⟨_, rfl⟩ (.cons rfl ⟨_, rfl⟩ (.cons rfl ⟨_, rfl, o2⟩ (.cons rfl ⟨_, rfl, o3⟩ (.cons rfl ⟨_, rfl, o4⟩ (.cons rfl ⟨_, rfl, o5⟩ (.cons rfl ⟨_, rfl⟩ (.cons rfl ⟨_, rfl⟩ (.cons rfl ⟨_, rfl⟩ (.cons rfl ⟨_, rfl⟩ .nil))))))))))))
    · exact .nil
    · exact sepOk_ro rfl
    · exact .nil
  · exact (envEq rfl (dAgg (dlCons (dNd rfl (slOne hS)) (dlCons (dNd rfl (slOne hSk)) dlNil))) (envEq rfl (dAgg (dlCons (dNd rfl ⟨_, rfl⟩) (dlCons (dNd rfl ⟨_, rfl⟩) (dlCons (dNd rfl ⟨_, rfl, o2⟩) (dlCons (dNd rfl ⟨_, rfl, o3⟩) (dlCons (dNd rfl ⟨_, rfl, o4⟩) (dlCons (dNd rfl ⟨_, rfl, o5⟩) dlNil))))))) envNil))
  refine all1 (by kernel_rfl) ?_
  intro vs ls H1 E1 st hE
  obtain ⟨p2, e3, r4, n5⟩ := ptr_of st.inn hE 2 0 (by kernel_rfl) (ds := [S, Sk]) (by kernel_rfl)
  have op2 : H.next ≤ p2 := Nat.le_trans (Nat.le_refl _) (n5 (Nat.le_of_ble_eq_true rfl))
  obtain ⟨p6, e7, r8, n9⟩ := ptr_of st.inn hE 4 2 (by kernel_rfl) (ds := [.nilslice, .nilslice]) (by kernel_rfl)
  have op6 : H.next ≤ p6 := Nat.le_trans (Nat.le_refl _) (n9 (Nat.le_of_ble_eq_true rfl))
  obtain ⟨p10, e11, r12, n13⟩ := ptr_of st.inn hE 3 1 (by kernel_rfl) (ds := [.int .i64 v0, .int .i64 v1, .flt .f32 v2, .flt .f32 v3, .flt .f32 v4, .flt .f32 v5]) (by kernel_rfl)
  have op10 : H.next ≤ p10 := Nat.le_trans (Nat.le_refl _) (n13 (Nat.le_of_ble_eq_true rfl))
  have ne14 : Apart p2 p6 := ⟨ptr_ne st.inn hE 2 0 4 2 (by kernel_rfl) (by kernel_rfl) (cs := [.nd 0 .one, .nd 1 .one]) (by kernel_rfl) (by decide) e3 e7⟩
  have ne15 : Apart p2 p10 := ⟨ptr_ne st.inn hE 2 0 3 1 (by kernel_rfl) (by kernel_rfl) (cs := [.nd 0 .one, .nd 1 .one]) (by kernel_rfl) (by decide) e3 e11⟩
  have ne16 : Apart p6 p10 := ⟨ptr_ne st.inn hE 4 2 3 1 (by kernel_rfl) (by kernel_rfl) (cs := [.lit .nilslice, .lit .nilslice]) (by kernel_rfl) (by decide) e7 e11⟩
  have g17 : Grew H H1 := (st.kept.grew (Nat.le_of_ble_eq_true (by kernel_rfl)))
  have g18 : Grew H H1 := Grew.trans (Grew.refl _) g17
  clear st hE vs ls
  refine res_call (d := (some 7)) (f := 61) (args := [.tmp 2]) (by kernel_rfl) (R := fun z H' => z = .bool (okG ms ks) ∧ H' = H1) ?_ ?_
  · show ACalls _ _ [E1 2] _ _
    rw [e3]
    exact k_l06Ok H1 p2 ms hr S (hS.grew g18) (mx40 mxms) ks hrk Sk (hSk.grew g18) (mx40 mxks) r4
  rintro z H1 ⟨rfl, rfl⟩
  refine run_mn (φ := φ0) (pm := pmR 2 [(.len (.nd 0 .one), .nd 13 (.int .i64)), (.call 94 [.ptr 1 0, .nd 13 (.int .i64)], .nd 10 .bool), (.len (.nd 1 .one), .nd 14 (.int .i64))] 0) 20 (nk := [(.atom 0, .one), (.atom 1, .one), (.atom 2, .int .i64), (.atom 3, .int .i64), (.atom 4, .flt .f32), (.atom 5, .flt .f32), (.atom 6, .flt .f32), (.atom 7, .flt .f32), (.atom 8, .bool), (.atom 9, .int .i64), (.atom 10, .bool), (.atom 11, .int .i64), (.atom 12, .bool), (.atom 13, .int .i64), (.atom 14, .int .i64)]) (fs := []) (xs := [S, Sk, .int .i64 v0, .int .i64 v1, .flt .f32 v2, .flt .f32 v3, .flt .f32 v4, .flt .f32 v5, .bool (okG ms ks), .int .i64 (ms.length : Int), .bool (okK ms.length [.int .i64 v0, .int .i64 v1, .flt .f32 v2, .flt .f32 v3, .flt .f32 v4, .flt .f32 v5]), .int .i64 (ks.length : Int), .bool (okG ms ks), .int .i64 (ms.length : Int), .int .i64 (ks.length : Int)]) (ws := [⟨p2, 0, [.nd 0 .one, .nd 1 .one], false⟩, ⟨p10, 0, [.nd 2 (.int .i64), .nd 3 (.int .i64), .nd 4 (.flt .f32), .nd 5 (.flt .f32), .nd 6 (.flt .f32), .nd 7 (.flt .f32)], false⟩, ⟨p6, 0, [.lit .nilslice, .lit .nilslice], true⟩]) (env := [(2, .ptr 0 0), (4, .ptr 2 0), (3, .ptr 1 0), (7, .nd 12 .bool)]) ?_ ?_ tb_ok ap_ok ?_
  · refine midN_in ?_ .nil _ ?_ ?_ ?_
    · exact (.cons rfl (slOne hS) (.cons rfl (slOne hSk) (.cons rfl ⟨_, rfl⟩ (.cons rfl ⟨_, rfl⟩ (.cons rfl ⟨_, rfl, o2⟩ (.cons rfl ⟨_, rfl, o3⟩ (.cons rfl ⟨_, rfl, o4⟩ (.cons rfl ⟨_, rfl, o5⟩ (.cons rfl ⟨_, rfl⟩ (.cons rfl ⟨_, rfl⟩ (.cons rfl ⟨_, rfl⟩ (.cons rfl ⟨_, rfl⟩ (.cons rfl ⟨_, rfl⟩ (.cons rfl ⟨_, rfl⟩ (.cons rfl ⟨_, rfl⟩ .nil)))))))))))))))
    · exact (.cons (win_row r4 (dlCons (dNd rfl (slOne hS)) (dlCons (dNd rfl (slOne hSk)) dlNil))) (.cons (win_row r12 (dlCons (dNd rfl ⟨_, rfl⟩) (dlCons (dNd rfl ⟨_, rfl⟩) (dlCons (dNd rfl ⟨_, rfl, o2⟩) (dlCons (dNd rfl ⟨_, rfl, o3⟩) (dlCons (dNd rfl ⟨_, rfl, o4⟩) (dlCons (dNd rfl ⟨_, rfl, o5⟩) dlNil))))))) (.cons (win_own r8 (dlCons (dLit rfl) (dlCons (dLit rfl) dlNil))) .nil)))
    · exact ⟨(fun v hv h => (by simp at hv; rcases hv with rfl | rfl <;> first | (simp at h; done) | exact Apart.ne (by assumption) | exact (Apart.ne (by assumption)).symm)), ⟨(fun v hv h => (by simp at hv; rcases hv with rfl <;> first | (simp at h; done) | exact Apart.ne (by assumption) | exact (Apart.ne (by assumption)).symm)), ⟨(fun v hv => (by cases hv)), trivial⟩⟩⟩
    · exact (.cons (⟨_, _, (dNd rfl (slOne hS)), (dNd rfl ⟨_, rfl⟩), slLen hS⟩) (.cons (rule_call (args := [.ptr p10 0, .int .i64 (ms.length : Int)]) (dlCons (dPtr (l := p10) (o := 0) rfl) (dlCons (dNd rfl ⟨_, rfl⟩) dlNil)) (dNd rfl ⟨_, rfl⟩) (fun H9 hk => k_l06Link ms.length (mx40 mxms) v0 v1 v2 v3 v4 v5 o2 o3 o4 o5 H9 p10 0 [] [] true (by simpa using (kept_at hk r12 ⟨by first | assumption | exact Apart.symm (by assumption), trivial⟩)) rfl)) (.cons (⟨_, _, (dNd rfl (slOne hSk)), (dNd rfl ⟨_, rfl⟩), slLen hSk⟩) .nil)))
  · exact (envEq (put_ne rfl e3) (dPtr (l := p2) (o := 0) rfl) (envEq (put_ne rfl e7) (dPtr (l := p6) (o := 0) rfl) (envEq (put_ne rfl e11) (dPtr (l := p10) (o := 0) rfl) (envEq put_same (dNd rfl ⟨_, rfl⟩) envNil))))
  refine all4 (by kernel_rfl) ?_ ?_ ?_ ?_
  ·
    intro vs ls H19 E19 st hE
    have f20 : (okG ms ks) = false := bfact st.inn 0 (by kernel_rfl)
    have gz : Grew H H19 := (grew_own g18 (st.inn.kept) ⟨op6, trivial⟩)
    have hc : addK ms ks [.int .i64 v0, .int .i64 v1, .flt .f32 v2, .flt .f32 v3, .flt .f32 v4, .flt .f32 v5] = ([], [], 1) := by unfold addK; simp [f20]
    exact res_ex (by kernel_rfl) (end_same st.inn hE (.inr rfl) (a := .tuple [.agg [.nilslice, .nilslice], .int .i64 1]) (by kernel_rfl) gz.next (by rw [hc]; exact ⟨gz, _, _, rfl, (.nil rfl), FreshS.nil, (.nil rfl), FreshS.nil, ApartS.nil⟩))
  ·
    intro vs ls H21 E21 st hE
    have f22 : (okK ms.length [.int .i64 v0, .int .i64 v1, .flt .f32 v2, .flt .f32 v3, .flt .f32 v4, .flt .f32 v5]) = false := bfact st.inn 0 (by kernel_rfl)
    have f23 : (okG ms ks) = true := bfact st.inn 1 (by kernel_rfl)
    have gz : Grew H H21 := (grew_own g18 (st.inn.kept) ⟨op6, trivial⟩)
    have hc : addK ms ks [.int .i64 v0, .int .i64 v1, .flt .f32 v2, .flt .f32 v3, .flt .f32 v4, .flt .f32 v5] = ([], [], 2) := by unfold addK; simp [f23, f22]
    exact res_ex (by kernel_rfl) (end_same st.inn hE (.inr rfl) (a := .tuple [.agg [.nilslice, .nilslice], .int .i64 2]) (by kernel_rfl) gz.next (by rw [hc]; exact ⟨gz, _, _, rfl, (.nil rfl), FreshS.nil, (.nil rfl), FreshS.nil, ApartS.nil⟩))
  ·
    intro vs ls H24 E24 st hE
    have f25 : (ks.length : Int) = 120 := of_decide_eq_true (bfact (x := decide ((ks.length : Int) = 120)) st.inn 0 (by kernel_rfl))
    have f26 : (okK ms.length [.int .i64 v0, .int .i64 v1, .flt .f32 v2, .flt .f32 v3, .flt .f32 v4, .flt .f32 v5]) = true := bfact st.inn 1 (by kernel_rfl)
    have f27 : (okG ms ks) = true := bfact st.inn 2 (by kernel_rfl)
    have gz : Grew H H24 := (grew_own g18 (st.inn.kept) ⟨op6, trivial⟩)
    have hz : ks.length = 120 := by omega
    have hc : addK ms ks [.int .i64 v0, .int .i64 v1, .flt .f32 v2, .flt .f32 v3, .flt .f32 v4, .flt .f32 v5] = ([], [], 3) := by unfold addK; simp [f27, f26, hz]
    exact res_ex (by kernel_rfl) (end_same st.inn hE (.inr rfl) (a := .tuple [.agg [.nilslice, .nilslice], .int .i64 3]) (by kernel_rfl) gz.next (by rw [hc]; exact ⟨gz, _, _, rfl, (.nil rfl), FreshS.nil, (.nil rfl), FreshS.nil, ApartS.nil⟩))
  ·
    intro vs ls H28 E28 st hE
    have f29 : ¬ ((ks.length : Int) = 120) := of_decide_eq_false (bfact (x := decide ((ks.length : Int) = 120)) st.inn 0 (by kernel_rfl))
    have f30 : (okK ms.length [.int .i64 v0, .int .i64 v1, .flt .f32 v2, .flt .f32 v3, .flt .f32 v4, .flt .f32 v5]) = true := bfact st.inn 1 (by kernel_rfl)
    have f31 : (okG ms ks) = true := bfact st.inn 2 (by kernel_rfl)
    have b32 : E28 2 = .ptr p2 0 := env_of st.inn hE 2 (by kernel_rfl)
    have b33 : E28 3 = .ptr p10 0 := env_of st.inn hE 3 (by kernel_rfl)
    have b34 : E28 4 = .ptr p6 0 := env_of st.inn hE 4 (by kernel_rfl)
    have g35 : Grew H1 H28 := (st.kept.grew (Nat.le_of_ble_eq_true (by kernel_rfl)))
    have g36 : Grew H H28 := Grew.trans g18 g35
    have r37 := g35.at r4
    have r38 := g35.at r12
    have r39 := g35.at r8
    clear st hE vs ls
    refine res_call (d := (some 21)) (f := 78) (args := [.tmp 2]) (by kernel_rfl) (R := fun z H' => Grew H28 H' ∧ ∃ S0' S1', z = .agg [S0', S1'] ∧ SlF H' 3 ms S0' ∧ FreshS H28.next S0' ∧ SlF H' 6 ks S1' ∧ FreshS H28.next S1' ∧ ApartS S0' S1') ?_ ?_
    · show ACalls _ _ [E28 2] _ _
      rw [b32]
      exact k_l06Copy H28 p2 ms hr S (hS.grew g36) mxms ks hrk Sk (hSk.grew g36) mxks r37
    rintro z H40 ⟨gH40, S41, S42, rfl, sS41, fS41, sS42, fS42, ap43⟩
    have ne44 : ApartL (S41) p2 := fS41.apartL (H28.lt_of_get r37)
    have ne45 : ApartL (S41) p10 := fS41.apartL (H28.lt_of_get r38)
    have ne46 : ApartL (S41) p6 := fS41.apartL (H28.lt_of_get r39)
    have fr47 : FreshS H.next (S41) := fS41.mono g36.next
    have ne48 : ApartL (S42) p2 := fS42.apartL (H28.lt_of_get r37)
    have ne49 : ApartL (S42) p10 := fS42.apartL (H28.lt_of_get r38)
    have ne50 : ApartL (S42) p6 := fS42.apartL (H28.lt_of_get r39)
    have fr51 : FreshS H.next (S42) := fS42.mono g36.next
    have g52 : Grew H H40 := Grew.trans g36 gH40
    have r53 := gH40.at r37
    have r54 := gH40.at r38
    have r55 := gH40.at r39
    refine run_mn (φ := φ0) (pm := pmR 2 [] 0) 20 (nk := [(.atom 0, .one), (.atom 1, .one), (.atom 2, .int .i64), (.atom 3, .int .i64), (.atom 4, .flt .f32), (.atom 5, .flt .f32), (.atom 6, .flt .f32), (.atom 7, .flt .f32), (.atom 8, .bool), (.atom 9, .int .i64), (.atom 10, .bool), (.atom 11, .int .i64), (.atom 12, .bool), (.atom 13, .int .i64), (.atom 14, .int .i64), (.atom 15, .one), (.atom 16, .one)]) (fs := []) (xs := [S, Sk, .int .i64 v0, .int .i64 v1, .flt .f32 v2, .flt .f32 v3, .flt .f32 v4, .flt .f32 v5, .bool (okG ms ks), .int .i64 (ms.length : Int), .bool (okK ms.length [.int .i64 v0, .int .i64 v1, .flt .f32 v2, .flt .f32 v3, .flt .f32 v4, .flt .f32 v5]), .int .i64 (ks.length : Int), .bool (okG ms ks), .int .i64 (ms.length : Int), .int .i64 (ks.length : Int), S41, S42]) (ws := [⟨p2, 0, [.nd 0 .one, .nd 1 .one], false⟩, ⟨p10, 0, [.nd 2 (.int .i64), .nd 3 (.int .i64), .nd 4 (.flt .f32), .nd 5 (.flt .f32), .nd 6 (.flt .f32), .nd 7 (.flt .f32)], false⟩, ⟨p6, 0, [.lit .nilslice, .lit .nilslice], true⟩]) (env := [(2, .ptr 0 0), (3, .ptr 1 0), (4, .ptr 2 0), (21, .agg [.nd 15 .one, .nd 16 .one])]) ?_ ?_ tb_ok ap_ok ?_
    · refine midN_in ?_ .nil _ ?_ ?_ ?_
      · exact (.cons rfl (slOne hS) (.cons rfl (slOne hSk) (.cons rfl ⟨_, rfl⟩ (.cons rfl ⟨_, rfl⟩ (.cons rfl ⟨_, rfl, o2⟩ (.cons rfl ⟨_, rfl, o3⟩ (.cons rfl ⟨_, rfl, o4⟩ (.cons rfl ⟨_, rfl, o5⟩ (.cons rfl ⟨_, rfl⟩ (.cons rfl ⟨_, rfl⟩ (.cons rfl ⟨_, rfl⟩ (.cons rfl ⟨_, rfl⟩ (.cons rfl ⟨_, rfl⟩ (.cons rfl ⟨_, rfl⟩ (.cons rfl ⟨_, rfl⟩ (.cons rfl sS41.one (.cons rfl sS42.one .nil)))))))))))))))))
      · exact (.cons (win_row r53 (dlCons (dNd rfl (slOne hS)) (dlCons (dNd rfl (slOne hSk)) dlNil))) (.cons (win_row r54 (dlCons (dNd rfl ⟨_, rfl⟩) (dlCons (dNd rfl ⟨_, rfl⟩) (dlCons (dNd rfl ⟨_, rfl, o2⟩) (dlCons (dNd rfl ⟨_, rfl, o3⟩) (dlCons (dNd rfl ⟨_, rfl, o4⟩) (dlCons (dNd rfl ⟨_, rfl, o5⟩) dlNil))))))) (.cons (win_own r55 (dlCons (dLit rfl) (dlCons (dLit rfl) dlNil))) .nil)))
      · exact ⟨(fun v hv h => (by simp at hv; rcases hv with rfl | rfl <;> first | (simp at h; done) | exact Apart.ne (by assumption) | exact (Apart.ne (by assumption)).symm)), ⟨(fun v hv h => (by simp at hv; rcases hv with rfl <;> first | (simp at h; done) | exact Apart.ne (by assumption) | exact (Apart.ne (by assumption)).symm)), ⟨(fun v hv => (by cases hv)), trivial⟩⟩⟩
      · exact .nil
    · exact (envEq (put_ne rfl b32) (dPtr (l := p2) (o := 0) rfl) (envEq (put_ne rfl b33) (dPtr (l := p10) (o := 0) rfl) (envEq (put_ne rfl b34) (dPtr (l := p6) (o := 0) rfl) (envEq put_same (dAgg (dlCons (dNd rfl sS41.one) (dlCons (dNd rfl sS42.one) dlNil))) envNil))))
    refine all1 (by kernel_rfl) ?_
    intro vs ls H56 E56 st hE
    obtain ⟨p57, e58, r59, n60⟩ := sl_of st.inn hE 25 4 1 1 6 (by kernel_rfl) (ds := [.int .i64 v0, .int .i64 v1, .flt .f32 v2, .flt .f32 v3, .flt .f32 v4, .flt .f32 v5]) (by kernel_rfl)
    have op57 : H.next ≤ p57 := Nat.le_trans g52.next (n60 (Nat.le_of_ble_eq_true rfl))
    obtain ⟨p61, e62, r63, n64⟩ := ptr_of st.inn hE 6 3 (by kernel_rfl) (ds := [S41, S42]) (by kernel_rfl)
    have op61 : H.next ≤ p61 := Nat.le_trans g52.next (n64 (Nat.le_of_ble_eq_true rfl))
    have ne65 : Apart p57 p61 := ⟨row_ne st.inn hE 25 6 4 3 (v := .sl 4 0 1 1 6) (v' := .ptr 3 0) (by kernel_rfl) (by kernel_rfl) rfl rfl (cs := [.nd 2 (.int .i64), .nd 3 (.int .i64), .nd 4 (.flt .f32), .nd 5 (.flt .f32), .nd 6 (.flt .f32), .nd 7 (.flt .f32)]) (by kernel_rfl) (by decide) e58 e62 rfl rfl⟩
    have ne66 : Apart p57 p2 := ⟨Nat.ne_of_gt (Nat.lt_of_lt_of_le (H40.lt_of_get r53) (n60 (Nat.le_of_ble_eq_true rfl)))⟩
    have ne67 : Apart p57 p10 := ⟨Nat.ne_of_gt (Nat.lt_of_lt_of_le (H40.lt_of_get r54) (n60 (Nat.le_of_ble_eq_true rfl)))⟩
    have ne68 : Apart p57 p6 := ⟨Nat.ne_of_gt (Nat.lt_of_lt_of_le (H40.lt_of_get r55) (n60 (Nat.le_of_ble_eq_true rfl)))⟩
    have ne69 : ApartL (S41) p57 := sS41.apart_new (n60 (Nat.le_of_ble_eq_true rfl))
    have ne70 : ApartL (S42) p57 := sS42.apart_new (n60 (Nat.le_of_ble_eq_true rfl))
    have ne71 : Apart p61 p2 := ⟨Nat.ne_of_gt (Nat.lt_of_lt_of_le (H40.lt_of_get r53) (n64 (Nat.le_of_ble_eq_true rfl)))⟩
    have ne72 : Apart p61 p10 := ⟨Nat.ne_of_gt (Nat.lt_of_lt_of_le (H40.lt_of_get r54) (n64 (Nat.le_of_ble_eq_true rfl)))⟩
    have ne73 : Apart p61 p6 := ⟨Nat.ne_of_gt (Nat.lt_of_lt_of_le (H40.lt_of_get r55) (n64 (Nat.le_of_ble_eq_true rfl)))⟩
    have ne74 : ApartL (S41) p61 := sS41.apart_new (n64 (Nat.le_of_ble_eq_true rfl))
    have ne75 : ApartL (S42) p61 := sS42.apart_new (n64 (Nat.le_of_ble_eq_true rfl))
    have b76 : E56 23 = S42 := env_of st.inn hE 23 (by kernel_rfl)
    have b77 : E56 4 = .ptr p6 0 := env_of st.inn hE 4 (by kernel_rfl)
    have g78 : Grew H40 H56 := (st.kept.grew (Nat.le_of_ble_eq_true (by kernel_rfl)))
    have g79 : Grew H H56 := Grew.trans g52 g78
    have r80 := g78.at r53
    have r81 := g78.at r54
    have r82 := g78.at r55
    have s83 := sS41.grew g78
    have s84 := sS42.grew g78
    clear st hE vs ls
    refine res_append (d := (some 26)) (sz := 6) (bytes := 32) (x := .tmp 23) (y := .tmp 25) (by kernel_rfl) (S := S42) (ms := ks) (ys := [[.int .i64 v0, .int .i64 v1, .flt .f32 v2, .flt .f32 v3, .flt .f32 v4, .flt .f32 v5]]) (by show E56 23 = _; exact b76) s84 hrk.len (by show srcCells _ _ (E56 25) = _; rw [e58]; exact src_one r59 rfl) (recs_one (ks := KL) (Recs.one (ks := KL) (.cons ⟨_, rfl⟩ (.cons ⟨_, rfl⟩ (.cons ⟨_, rfl, o2⟩ (.cons ⟨_, rfl, o3⟩ (.cons ⟨_, rfl, o4⟩ (.cons ⟨_, rfl, o5⟩ .nil))))))) rfl) (by show (2 * (ks.length + 1) + 192) * 32 ≤ 281474976710656; omega) ?_
    intro S85 H86 sS85 fS85 oS85
    have ne87 : ApartL (S85) p57 := fS85.apartL (H56.lt_of_get r59) (by assumption)
    have ne88 : ApartL (S85) p61 := fS85.apartL (H56.lt_of_get r63) (by assumption)
    have ne89 : ApartL (S85) p6 := fS85.apartL (H56.lt_of_get r82) (by assumption)
    have ne90 : ApartS (S85) (S41) := fS85.apartS s83.lt (by first | assumption | exact ApartS.symm (by assumption))
    have fr91 : FreshS H.next (S85) := fS85.fresh fr51 g79.next
    have g92 : Grew H H86 := OnlyS.own g79 fr51 oS85
    have r93 := oS85.at r59 (by assumption)
    have r94 := oS85.at r63 (by assumption)
    have r95 := oS85.at r82 (by assumption)
    have s96 := s83.only oS85 (ApartS.symm (by first | assumption | exact ApartS.symm (by assumption)))
    refine run_mn (φ := φ0) (pm := pmR 1 [] 0) 20 (nk := [(.atom 0, .one), (.atom 1, .one), (.atom 2, .int .i64), (.atom 3, .int .i64), (.atom 4, .flt .f32), (.atom 5, .flt .f32), (.atom 6, .flt .f32), (.atom 7, .flt .f32), (.atom 8, .bool), (.atom 9, .int .i64), (.atom 10, .bool), (.atom 11, .int .i64), (.atom 12, .bool), (.atom 13, .int .i64), (.atom 14, .int .i64), (.atom 15, .one), (.atom 16, .one), (.atom 17, .one)]) (fs := []) (xs := [S, Sk, .int .i64 v0, .int .i64 v1, .flt .f32 v2, .flt .f32 v3, .flt .f32 v4, .flt .f32 v5, .bool (okG ms ks), .int .i64 (ms.length : Int), .bool (okK ms.length [.int .i64 v0, .int .i64 v1, .flt .f32 v2, .flt .f32 v3, .flt .f32 v4, .flt .f32 v5]), .int .i64 (ks.length : Int), .bool (okG ms ks), .int .i64 (ms.length : Int), .int .i64 (ks.length : Int), S41, S42, S85]) (ws := [⟨p57, 0, [.nd 2 (.int .i64), .nd 3 (.int .i64), .nd 4 (.flt .f32), .nd 5 (.flt .f32), .nd 6 (.flt .f32), .nd 7 (.flt .f32)], false⟩, ⟨p6, 0, [.lit .nilslice, .lit .nilslice], true⟩, ⟨p61, 0, [.nd 15 .one, .nd 16 .one], true⟩]) (env := [(23, .nd 16 .one), (25, .sl 0 0 1 1 6), (6, .ptr 2 0), (4, .ptr 1 0), (26, .nd 17 .one)]) ?_ ?_ tb_ok ap_ok ?_
    · refine midN_in ?_ .nil _ ?_ ?_ ?_
      · exact (.cons rfl (slOne hS) (.cons rfl (slOne hSk) (.cons rfl ⟨_, rfl⟩ (.cons rfl ⟨_, rfl⟩ (.cons rfl ⟨_, rfl, o2⟩ (.cons rfl ⟨_, rfl, o3⟩ (.cons rfl ⟨_, rfl, o4⟩ (.cons rfl ⟨_, rfl, o5⟩ (.cons rfl ⟨_, rfl⟩ (.cons rfl ⟨_, rfl⟩ (.cons rfl ⟨_, rfl⟩ (.cons rfl ⟨_, rfl⟩ (.cons rfl ⟨_, rfl⟩ (.cons rfl ⟨_, rfl⟩ (.cons rfl ⟨_, rfl⟩ (.cons rfl sS41.one (.cons rfl sS42.one (.cons rfl sS85.one .nil))))))))))))))))))
      · exact (.cons (win_row r93 (dlCons (dNd rfl ⟨_, rfl⟩) (dlCons (dNd rfl ⟨_, rfl⟩) (dlCons (dNd rfl ⟨_, rfl, o2⟩) (dlCons (dNd rfl ⟨_, rfl, o3⟩) (dlCons (dNd rfl ⟨_, rfl, o4⟩) (dlCons (dNd rfl ⟨_, rfl, o5⟩) dlNil))))))) (.cons (win_own r95 (dlCons (dLit rfl) (dlCons (dLit rfl) dlNil))) (.cons (win_own r94 (dlCons (dNd rfl sS41.one) (dlCons (dNd rfl sS42.one) dlNil))) .nil)))
      · exact ⟨(fun v hv h => (by simp at hv; rcases hv with rfl | rfl <;> first | (simp at h; done) | exact Apart.ne (by assumption) | exact (Apart.ne (by assumption)).symm)), ⟨(fun v hv h => (by simp at hv; rcases hv with rfl <;> first | (simp at h; done) | exact Apart.ne (by assumption) | exact (Apart.ne (by assumption)).symm)), ⟨(fun v hv => (by cases hv)), trivial⟩⟩⟩
      · exact .nil
    · exact (envEq (put_ne rfl b76) (dNd rfl sS42.one) (envEq (put_ne rfl e58) (dSl' (l := p57) (o := 0) rfl) (envEq (put_ne rfl e62) (dPtr (l := p61) (o := 0) rfl) (envEq (put_ne rfl b77) (dPtr (l := p6) (o := 0) rfl) (envEq put_same (dNd rfl sS85.one) envNil)))))
    refine all1 (by kernel_rfl) ?_
    intro vs ls H97 E97 st hE
    have gz : Grew H H97 := (grew_own g92 (st.inn.kept) ⟨op6, ⟨op61, trivial⟩⟩)
    have hz : ¬ ks.length = 120 := by omega
    have hc : addK ms ks [.int .i64 v0, .int .i64 v1, .flt .f32 v2, .flt .f32 v3, .flt .f32 v4, .flt .f32 v5] = (ms, (ks ++ [[.int .i64 v0, .int .i64 v1, .flt .f32 v2, .flt .f32 v3, .flt .f32 v4, .flt .f32 v5]]), 0) := by unfold addK; simp [f31, f30, hz]
    exact res_ex (by kernel_rfl) (end_same st.inn hE (.inr rfl) (a := .tuple [.agg [S41, S85], .int .i64 0]) (by kernel_rfl) gz.next (by rw [hc]; exact ⟨gz, _, _, rfl, ((s96.keep st.inn.kept ⟨by assumption, ⟨by assumption, trivial⟩⟩)).toW, fr47, ((sS85.keep st.inn.kept ⟨by assumption, ⟨by assumption, trivial⟩⟩)).toW, fr91, (by first | assumption | exact ApartS.symm (by assumption))⟩))
end Go.Proofs.Ytcmoeocemmeofaa
