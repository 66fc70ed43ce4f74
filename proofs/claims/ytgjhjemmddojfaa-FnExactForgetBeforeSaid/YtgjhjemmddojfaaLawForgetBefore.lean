/- The law of ForgetBefore, walked. -/
import Derived.Test.YtgjhjemmddojfaaForgetC
set_option linter.unusedVariables false
set_option linter.unusedSimpArgs false
namespace Go.Proofs.Ytgjhjemmddojfaa
open Go.Ab
set_option maxRecDepth 100000
set_option maxHeartbeats 1000000
attribute [local irreducible] Res
theorem forgetV_ok {x y : Option Nat} {ms L : List (List AV)} {t : Int} {c : Int} (h : forgetV x ms t = (y, L, c)) (hx : fOk .f32 x) (hr : Recs KM ms) (hl : ms.length ≤ 1048576) : fOk .f32 y ∧ Recs KM L ∧ L.length ≤ 1048576 := by
  have f0 : fOk .f32 (some 0) := fun b e => by cases e; exact ⟨by decide +kernel, by decide +kernel⟩
  unfold forgetV at h
  split at h
  · cases h; exact ⟨f0, .nil, by decide⟩
  · split at h
    · cases h; first | exact ⟨f0, .nil, by decide⟩ | exact ⟨hx, recs_filter hr, Nat.le_trans (List.length_filter_le _ _) hl⟩
    · cases h; first | exact ⟨f0, .nil, by decide⟩ | exact ⟨hx, recs_filter hr, Nat.le_trans (List.length_filter_le _ _) hl⟩
theorem forgetV_y {x y : Option Nat} {ms L : List (List AV)} {t : Int} {c : Int} (h : forgetV x ms t = (y, L, c)) (hx : fOk .f32 x) : fOk .f32 y := by
  have f0 : fOk .f32 (some 0) := fun b e => by cases e; exact ⟨by decide +kernel, by decide +kernel⟩
  unfold forgetV at h
  split at h
  · cases h; exact f0
  · split at h
    · cases h; first | exact f0 | exact hx
    · cases h; first | exact f0 | exact hx
theorem lawExactForgetBefore (H : AHeap) (vs : List AV) (h : FitArgs H [(true, [.flt .f32, .sl [.int .i32, .int .i32, .int .i32, .flt .f32, .flt .f32, .flt .f32, .flt .f32, .int .i64, .int .i64]]), (false, [.int .i64])] vs) : ACalls Try.prog 11 vs H fun r _ => r = .bool true := by
  match vs, h with
  | [a, b], h =>
  obtain ⟨x, ms, S, rfl, hx, hr, hS, hmx⟩ := mapArg h.1
  obtain ⟨sb, eb, fb⟩ := h.2.1
  cases eb
  cases fb
  rename_i t _ht
  clear h
  obtain ⟨y, L, c, hV⟩ : ∃ y L c, forgetV x ms t = (y, L, c) := ⟨_, _, _, rfl⟩
  have hy := forgetV_y hV hx
  refine res_start h_laws_FnExactForgetBefore (by simp) ?_
  obtain ⟨q1, kq1, hq1⟩ : ∃ r : Int, (∀ H9, Grew H H9 → APure Try.prog 30 [.agg [.flt .f32 x, S], .int .i64 1048576] H9 (.int .i64 r)) ∧ (r < 0 ∨ r = 1048576 - ms.length) := ⟨_, fun H9 hk => k_szLandMap H9 x hx ms S (hS.grew (Grew.trans (Grew.refl _) hk)) 1048576 (by omega) (by omega) hmx, by split <;> omega⟩
  refine run_mn (φ := φ0) (pm := pmR 0 [(.call 30 [.agg [.nd 0 (.flt .f32), .nd 1 .one], .lit (.int .i64 1048576)], .nd 5 (.int .i64))] 0) 20 (nk := [(.atom 0, .flt .f32), (.atom 1, .one), (.atom 2, .int .i64), (.atom 3, .flt .f32), (.atom 4, .int .i64), (.atom 5, .int .i64)]) (fs := []) (xs := [.flt .f32 x, S, .int .i64 t, .flt .f32 y, .int .i64 c, .int .i64 q1]) (ws := []) (env := [(0, .agg [.nd 0 (.flt .f32), .nd 1 .one]), (1, .nd 2 (.int .i64))]) ?_ ?_ tb_ok ap_ok ?_
  · refine midN_in ?_ .nil _ ?_ ?_ ?_
    · exact (.cons rfl ⟨_, rfl, hx⟩ (.cons rfl (slOne hS) (.cons rfl ⟨_, rfl⟩ (.cons rfl ⟨_, rfl, hy⟩ (.cons rfl ⟨_, rfl⟩ (.cons rfl ⟨_, rfl⟩ .nil))))))
    · exact .nil
    · exact sepOk_ro rfl
    · exact (.cons (rule_call (args := [.agg [.flt .f32 x, S], .int .i64 1048576]) (dlCons (dAgg (dlCons (dNd rfl ⟨_, rfl, hx⟩) (dlCons (dNd rfl (slOne hS)) dlNil))) (dlCons (dLit rfl) dlNil)) (dNd rfl ⟨_, rfl⟩) (fun H9 hk => kq1 H9 (hk.grew (Nat.le_refl _)))) .nil)
  · exact (envEq rfl (dAgg (dlCons (dNd rfl ⟨_, rfl, hx⟩) (dlCons (dNd rfl (slOne hS)) dlNil))) (envEq rfl (dNd rfl ⟨_, rfl⟩) envNil))
  refine all2 (by kernel_rfl) ?_ ?_
  ·
    intro vs ls H2 E2 st hE
    have f3 : q1 < 0 := of_decide_eq_true (bfact (x := decide (q1 < 0)) st.inn 0 (by kernel_rfl))
    exact res_ex (by kernel_rfl) (end_same st.inn hE (.inr rfl) (a := .bool true) (by kernel_rfl) (Nat.le_trans (Nat.le_refl _) st.kept.1) rfl)
  ·
    intro vs ls H4 E4 st hE
    have f5 : ¬ (q1 < 0) := of_decide_eq_false (bfact (x := decide (q1 < 0)) st.inn 0 (by kernel_rfl))
    have mxms : ms.length ≤ 1048576 := by omega
    obtain ⟨_, hL, mxL⟩ := forgetV_ok hV hx hr mxms
    obtain ⟨p6, e7, r8, n9⟩ := ptr_of st.inn hE 2 0 (by kernel_rfl) (ds := [.flt .f32 x, S]) (by kernel_rfl)
    have op6 : H.next ≤ p6 := Nat.le_trans (Nat.le_refl _) (n9 (Nat.le_of_ble_eq_true rfl))
    have b10 : E4 22 = .agg [.flt .f32 x, S] := env_of st.inn hE 22 (by kernel_rfl)
    have b11 : E4 1 = .int .i64 t := env_of st.inn hE 1 (by kernel_rfl)
    have g12 : Grew H H4 := (st.kept.grew (Nat.le_of_ble_eq_true (by kernel_rfl)))
    have g13 : Grew H H4 := Grew.trans (Grew.refl _) g12
    clear st hE vs ls
    refine res_call (d := (some 23)) (f := 32) (args := [.tmp 22]) (by kernel_rfl) (R := fun z H' => Grew H4 H' ∧ ∃ S', z = .agg [.flt .f32 x, S'] ∧ SlW H' 9 ms S' ∧ FreshS H4.next S') ?_ ?_
    · show ACalls _ _ [E4 22] _ _
      rw [b10]
      exact w_toLandMap H4 x hx ms hr S (hS.grew g13) mxms
    rintro z H15 ⟨gS14, S14, rfl, sS14, fS14⟩
    have ne16 : ApartL (S14) p6 := fS14.apartL (H4.lt_of_get r8)
    have fr17 : FreshS H.next (S14) := fS14.mono g13.next
    have g18 : Grew H H15 := Grew.trans g13 gS14
    have r19 := gS14.at r8
    refine run_mn (φ := φ0) (pm := pmR 1 [] 0) 20 (nk := [(.atom 0, .flt .f32), (.atom 1, .one), (.atom 2, .int .i64), (.atom 3, .flt .f32), (.atom 4, .int .i64), (.atom 5, .int .i64), (.atom 6, .one)]) (fs := []) (xs := [.flt .f32 x, S, .int .i64 t, .flt .f32 y, .int .i64 c, .int .i64 q1, S14]) (ws := [⟨p6, 0, [.nd 0 (.flt .f32), .nd 1 .one], false⟩]) (env := [(22, .agg [.nd 0 (.flt .f32), .nd 1 .one]), (1, .nd 2 (.int .i64)), (2, .ptr 0 0), (23, .agg [.nd 0 (.flt .f32), .nd 6 .one])]) ?_ ?_ tb_ok ap_ok ?_
    · refine midN_in ?_ .nil _ ?_ ?_ ?_
      · exact (.cons rfl ⟨_, rfl, hx⟩ (.cons rfl (slOne hS) (.cons rfl ⟨_, rfl⟩ (.cons rfl ⟨_, rfl, hy⟩ (.cons rfl ⟨_, rfl⟩ (.cons rfl ⟨_, rfl⟩ (.cons rfl sS14.one .nil)))))))
      · exact (.cons (win_row r19 (dlCons (dNd rfl ⟨_, rfl, hx⟩) (dlCons (dNd rfl (slOne hS)) dlNil))) .nil)
      · exact sepOk_ro rfl
      · exact .nil
    · exact (envEq (put_ne rfl b10) (dAgg (dlCons (dNd rfl ⟨_, rfl, hx⟩) (dlCons (dNd rfl (slOne hS)) dlNil))) (envEq (put_ne rfl b11) (dNd rfl ⟨_, rfl⟩) (envEq (put_ne rfl e7) (dPtr (l := p6) (o := 0) rfl) (envEq put_same (dAgg (dlCons (dNd rfl ⟨_, rfl, hx⟩) (dlCons (dNd rfl sS14.one) dlNil))) envNil))))
    refine all1 (by kernel_rfl) ?_
    intro vs ls H20 E20 st hE
    have b21 : E20 23 = .agg [.flt .f32 x, S14] := env_of st.inn hE 23 (by kernel_rfl)
    have b22 : E20 24 = .int .i64 t := env_of st.inn hE 24 (by kernel_rfl)
    have b23 : E20 2 = .ptr p6 0 := env_of st.inn hE 2 (by kernel_rfl)
    have b24 : E20 1 = .int .i64 t := env_of st.inn hE 1 (by kernel_rfl)
    have g25 : Grew H15 H20 := (st.kept.grew (Nat.le_of_ble_eq_true (by kernel_rfl)))
    have g26 : Grew H H20 := Grew.trans g18 g25
    have r27 := g25.at r19
    have s28 := sS14.grew g25
    clear st hE vs ls
    refine res_call (d := (some 25)) (f := 42) (args := [.tmp 23, .tmp 24]) (by kernel_rfl) (R := fun z H' => Grew H20 H' ∧ ∃ S', z = .tuple [.agg [.flt .f32 y, S'], .int .i64 c] ∧ SlW H' 9 L S' ∧ FreshS H20.next S') ?_ ?_
    · show ACalls _ _ [E20 23, E20 24] _ _
      rw [b21, b22]
      exact (by have h9 := k_spec_ForgetBefore H20 x hx ms hr (S14) s28.toL mxms t; rw [hV] at h9; exact h9)
    rintro z H29 ⟨gH29, S30, rfl, sS30, fS30⟩
    have ne31 : ApartL (S30) p6 := fS30.apartL (H20.lt_of_get r27)
    have ne32 : ApartS (S30) (S14) := fS30.apartS s28.lt
    have fr33 : FreshS H.next (S30) := fS30.mono g26.next
    have g34 : Grew H H29 := Grew.trans g26 gH29
    have r35 := gH29.at r27
    have s36 := s28.grew gH29
    refine run_mn (φ := φ0) (pm := pmR 1 [] 0) 20 (nk := [(.atom 0, .flt .f32), (.atom 1, .one), (.atom 2, .int .i64), (.atom 3, .flt .f32), (.atom 4, .int .i64), (.atom 5, .int .i64), (.atom 6, .one), (.atom 7, .one)]) (fs := []) (xs := [.flt .f32 x, S, .int .i64 t, .flt .f32 y, .int .i64 c, .int .i64 q1, S14, S30]) (ws := [⟨p6, 0, [.nd 0 (.flt .f32), .nd 1 .one], false⟩]) (env := [(23, .agg [.nd 0 (.flt .f32), .nd 6 .one]), (24, .nd 2 (.int .i64)), (2, .ptr 0 0), (1, .nd 2 (.int .i64)), (25, .tup [.agg [.nd 3 (.flt .f32), .nd 7 .one], .nd 4 (.int .i64)])]) ?_ ?_ tb_ok ap_ok ?_
    · refine midN_in ?_ .nil _ ?_ ?_ ?_
      · exact (.cons rfl ⟨_, rfl, hx⟩ (.cons rfl (slOne hS) (.cons rfl ⟨_, rfl⟩ (.cons rfl ⟨_, rfl, hy⟩ (.cons rfl ⟨_, rfl⟩ (.cons rfl ⟨_, rfl⟩ (.cons rfl sS14.one (.cons rfl sS30.one .nil))))))))
      · exact (.cons (win_row r35 (dlCons (dNd rfl ⟨_, rfl, hx⟩) (dlCons (dNd rfl (slOne hS)) dlNil))) .nil)
      · exact sepOk_ro rfl
      · exact .nil
    · exact (envEq (put_ne rfl b21) (dAgg (dlCons (dNd rfl ⟨_, rfl, hx⟩) (dlCons (dNd rfl sS14.one) dlNil))) (envEq (put_ne rfl b22) (dNd rfl ⟨_, rfl⟩) (envEq (put_ne rfl b23) (dPtr (l := p6) (o := 0) rfl) (envEq (put_ne rfl b24) (dNd rfl ⟨_, rfl⟩) (envEq put_same (dTup' (dlCons (dAgg (dlCons (dNd rfl ⟨_, rfl, hy⟩) (dlCons (dNd rfl sS30.one) dlNil))) (dlCons (dNd rfl ⟨_, rfl⟩) dlNil))) envNil)))))
    refine all1 (by kernel_rfl) ?_
    intro vs ls H37 E37 st hE
    obtain ⟨p38, e39, r40, n41⟩ := ptr_of st.inn hE 6 1 (by kernel_rfl) (ds := [.flt .f32 y, S30]) (by kernel_rfl)
    have op38 : H.next ≤ p38 := Nat.le_trans g34.next (n41 (Nat.le_of_ble_eq_true rfl))
    have ne42 : Apart p38 p6 := ⟨Nat.ne_of_gt (Nat.lt_of_lt_of_le (H29.lt_of_get r35) (n41 (Nat.le_of_ble_eq_true rfl)))⟩
    have ne43 : ApartL (S14) p38 := s36.apart_new (n41 (Nat.le_of_ble_eq_true rfl))
    have ne44 : ApartL (S30) p38 := sS30.apart_new (n41 (Nat.le_of_ble_eq_true rfl))
    have b45 : E37 28 = .agg [.flt .f32 x, S] := env_of st.inn hE 28 (by kernel_rfl)
    have b46 : E37 1 = .int .i64 t := env_of st.inn hE 1 (by kernel_rfl)
    have b47 : E37 7 = .int .i64 c := env_of st.inn hE 7 (by kernel_rfl)
    have b48 : E37 2 = .ptr p6 0 := env_of st.inn hE 2 (by kernel_rfl)
    have g49 : Grew H29 H37 := (st.kept.grew (Nat.le_of_ble_eq_true (by kernel_rfl)))
    have g50 : Grew H H37 := Grew.trans g34 g49
    have r51 := g49.at r35
    have s52 := s36.grew g49
    have s53 := sS30.grew g49
    clear st hE vs ls
    refine res_call (d := (some 29)) (f := 32) (args := [.tmp 28]) (by kernel_rfl) (R := fun z H' => Grew H37 H' ∧ ∃ S', z = .agg [.flt .f32 x, S'] ∧ SlW H' 9 ms S' ∧ FreshS H37.next S') ?_ ?_
    · show ACalls _ _ [E37 28] _ _
      rw [b45]
      exact w_toLandMap H37 x hx ms hr S (hS.grew g50) mxms
    rintro z H55 ⟨gS54, S54, rfl, sS54, fS54⟩
    have ne56 : ApartL (S54) p6 := fS54.apartL (H37.lt_of_get r51)
    have ne57 : ApartL (S54) p38 := fS54.apartL (H37.lt_of_get r40)
    have ne58 : ApartS (S54) (S14) := fS54.apartS s52.lt
    have ne59 : ApartS (S54) (S30) := fS54.apartS s53.lt
    have fr60 : FreshS H.next (S54) := fS54.mono g50.next
    have g61 : Grew H H55 := Grew.trans g50 gS54
    have r62 := gS54.at r51
    have r63 := gS54.at r40
    have s64 := s52.grew gS54
    have s65 := s53.grew gS54
    refine run_mn (φ := φ0) (pm := pmR 2 [] 0) 20 (nk := [(.atom 0, .flt .f32), (.atom 1, .one), (.atom 2, .int .i64), (.atom 3, .flt .f32), (.atom 4, .int .i64), (.atom 5, .int .i64), (.atom 6, .one), (.atom 7, .one), (.atom 8, .one)]) (fs := []) (xs := [.flt .f32 x, S, .int .i64 t, .flt .f32 y, .int .i64 c, .int .i64 q1, S14, S30, S54]) (ws := [⟨p6, 0, [.nd 0 (.flt .f32), .nd 1 .one], false⟩, ⟨p38, 0, [.nd 3 (.flt .f32), .nd 7 .one], false⟩]) (env := [(28, .agg [.nd 0 (.flt .f32), .nd 1 .one]), (1, .nd 2 (.int .i64)), (6, .ptr 1 0), (7, .nd 4 (.int .i64)), (2, .ptr 0 0), (29, .agg [.nd 0 (.flt .f32), .nd 8 .one])]) ?_ ?_ tb_ok ap_ok ?_
    · refine midN_in ?_ .nil _ ?_ ?_ ?_
      · exact (.cons rfl ⟨_, rfl, hx⟩ (.cons rfl (slOne hS) (.cons rfl ⟨_, rfl⟩ (.cons rfl ⟨_, rfl, hy⟩ (.cons rfl ⟨_, rfl⟩ (.cons rfl ⟨_, rfl⟩ (.cons rfl sS14.one (.cons rfl sS30.one (.cons rfl sS54.one .nil)))))))))
      · exact (.cons (win_row r62 (dlCons (dNd rfl ⟨_, rfl, hx⟩) (dlCons (dNd rfl (slOne hS)) dlNil))) (.cons (win_row r63 (dlCons (dNd rfl ⟨_, rfl, hy⟩) (dlCons (dNd rfl sS30.one) dlNil))) .nil))
      · exact sepOk_ro rfl
      · exact .nil
    · exact (envEq (put_ne rfl b45) (dAgg (dlCons (dNd rfl ⟨_, rfl, hx⟩) (dlCons (dNd rfl (slOne hS)) dlNil))) (envEq (put_ne rfl b46) (dNd rfl ⟨_, rfl⟩) (envEq (put_ne rfl e39) (dPtr (l := p38) (o := 0) rfl) (envEq (put_ne rfl b47) (dNd rfl ⟨_, rfl⟩) (envEq (put_ne rfl b48) (dPtr (l := p6) (o := 0) rfl) (envEq put_same (dAgg (dlCons (dNd rfl ⟨_, rfl, hx⟩) (dlCons (dNd rfl sS54.one) dlNil))) envNil))))))
    refine all1 (by kernel_rfl) ?_
    intro vs ls H66 E66 st hE
    obtain ⟨p67, e68, r69, n70⟩ := ptr_of st.inn hE 8 2 (by kernel_rfl) (ds := [.flt .f32 x, S54]) (by kernel_rfl)
    have op67 : H.next ≤ p67 := Nat.le_trans g61.next (n70 (Nat.le_of_ble_eq_true rfl))
    have ne71 : Apart p67 p6 := ⟨Nat.ne_of_gt (Nat.lt_of_lt_of_le (H55.lt_of_get r62) (n70 (Nat.le_of_ble_eq_true rfl)))⟩
    have ne72 : Apart p67 p38 := ⟨Nat.ne_of_gt (Nat.lt_of_lt_of_le (H55.lt_of_get r63) (n70 (Nat.le_of_ble_eq_true rfl)))⟩
    have ne73 : ApartL (S14) p67 := s64.apart_new (n70 (Nat.le_of_ble_eq_true rfl))
    have ne74 : ApartL (S30) p67 := s65.apart_new (n70 (Nat.le_of_ble_eq_true rfl))
    have ne75 : ApartL (S54) p67 := sS54.apart_new (n70 (Nat.le_of_ble_eq_true rfl))
    have b76 : E66 31 = .agg [.flt .f32 x, S54] := env_of st.inn hE 31 (by kernel_rfl)
    have b77 : E66 32 = .int .i64 t := env_of st.inn hE 32 (by kernel_rfl)
    have b78 : E66 6 = .ptr p38 0 := env_of st.inn hE 6 (by kernel_rfl)
    have b79 : E66 7 = .int .i64 c := env_of st.inn hE 7 (by kernel_rfl)
    have b80 : E66 2 = .ptr p6 0 := env_of st.inn hE 2 (by kernel_rfl)
    have b81 : E66 1 = .int .i64 t := env_of st.inn hE 1 (by kernel_rfl)
    have g82 : Grew H55 H66 := (st.kept.grew (Nat.le_of_ble_eq_true (by kernel_rfl)))
    have g83 : Grew H H66 := Grew.trans g61 g82
    have r84 := g82.at r62
    have r85 := g82.at r63
    have s86 := s64.grew g82
    have s87 := s65.grew g82
    have s88 := sS54.grew g82
    clear st hE vs ls
    refine res_call (d := (some 33)) (f := 43) (args := [.tmp 31, .tmp 32]) (by kernel_rfl) (R := fun z H' => Grew H66 H' ∧ ∃ S', z = .tuple [.agg [.flt .f32 y, S'], .int .i64 c] ∧ SlW H' 9 L S' ∧ FreshS H66.next S') ?_ ?_
    · show ACalls _ _ [E66 31, E66 32] _ _
      rw [b76, b77]
      exact (by have h9 := k_impl_ForgetBefore H66 x hx ms hr (S54) s88.toL mxms t; rw [hV] at h9; exact h9)
    rintro z H89 ⟨gH89, S90, rfl, sS90, fS90⟩
    have ne91 : ApartL (S90) p6 := fS90.apartL (H66.lt_of_get r84)
    have ne92 : ApartL (S90) p38 := fS90.apartL (H66.lt_of_get r85)
    have ne93 : ApartL (S90) p67 := fS90.apartL (H66.lt_of_get r69)
    have ne94 : ApartS (S90) (S14) := fS90.apartS s86.lt
    have ne95 : ApartS (S90) (S30) := fS90.apartS s87.lt
    have ne96 : ApartS (S90) (S54) := fS90.apartS s88.lt
    have fr97 : FreshS H.next (S90) := fS90.mono g83.next
    have g98 : Grew H H89 := Grew.trans g83 gH89
    have r99 := gH89.at r84
    have r100 := gH89.at r85
    have r101 := gH89.at r69
    have s102 := s86.grew gH89
    have s103 := s87.grew gH89
    have s104 := s88.grew gH89
    refine run_mn (φ := φ0) (pm := pmR 3 [(.call 27 [.agg [.nd 3 (.flt .f32), .nd 9 .one], .agg [.nd 3 (.flt .f32), .nd 7 .one]], .lit (.bool true))] 0) 20 (nk := [(.atom 0, .flt .f32), (.atom 1, .one), (.atom 2, .int .i64), (.atom 3, .flt .f32), (.atom 4, .int .i64), (.atom 5, .int .i64), (.atom 6, .one), (.atom 7, .one), (.atom 8, .one), (.atom 9, .one)]) (fs := []) (xs := [.flt .f32 x, S, .int .i64 t, .flt .f32 y, .int .i64 c, .int .i64 q1, S14, S30, S54, S90]) (ws := [⟨p6, 0, [.nd 0 (.flt .f32), .nd 1 .one], false⟩, ⟨p38, 0, [.nd 3 (.flt .f32), .nd 7 .one], false⟩, ⟨p67, 0, [.nd 0 (.flt .f32), .nd 8 .one], false⟩]) (env := [(31, .agg [.nd 0 (.flt .f32), .nd 8 .one]), (32, .nd 2 (.int .i64)), (6, .ptr 1 0), (7, .nd 4 (.int .i64)), (8, .ptr 2 0), (2, .ptr 0 0), (1, .nd 2 (.int .i64)), (33, .tup [.agg [.nd 3 (.flt .f32), .nd 9 .one], .nd 4 (.int .i64)])]) ?_ ?_ tb_ok ap_ok ?_
    · refine midN_in ?_ .nil _ ?_ ?_ ?_
      · exact (.cons rfl ⟨_, rfl, hx⟩ (.cons rfl (slOne hS) (.cons rfl ⟨_, rfl⟩ (.cons rfl ⟨_, rfl, hy⟩ (.cons rfl ⟨_, rfl⟩ (.cons rfl ⟨_, rfl⟩ (.cons rfl sS14.one (.cons rfl sS30.one (.cons rfl sS54.one (.cons rfl sS90.one .nil))))))))))
      · exact (.cons (win_row r99 (dlCons (dNd rfl ⟨_, rfl, hx⟩) (dlCons (dNd rfl (slOne hS)) dlNil))) (.cons (win_row r100 (dlCons (dNd rfl ⟨_, rfl, hy⟩) (dlCons (dNd rfl sS30.one) dlNil))) (.cons (win_row r101 (dlCons (dNd rfl ⟨_, rfl, hx⟩) (dlCons (dNd rfl sS54.one) dlNil))) .nil)))
      · exact sepOk_ro rfl
      · exact (.cons (rule_call (args := [.agg [.flt .f32 y, S90], .agg [.flt .f32 y, S30]]) (dlCons (dAgg (dlCons (dNd rfl ⟨_, rfl, hy⟩) (dlCons (dNd rfl sS90.one) dlNil))) (dlCons (dAgg (dlCons (dNd rfl ⟨_, rfl, hy⟩) (dlCons (dNd rfl sS30.one) dlNil))) dlNil)) (dLit rfl) (fun H9 hk => k_eqLandMap H9 y hy L hL _ _ ((sS90.grew (hk.grew (Nat.le_refl _)))).toL ((s103.grew (hk.grew (Nat.le_refl _)))).toL (mx40 mxL))) .nil)
    · exact (envEq (put_ne rfl b76) (dAgg (dlCons (dNd rfl ⟨_, rfl, hx⟩) (dlCons (dNd rfl sS54.one) dlNil))) (envEq (put_ne rfl b77) (dNd rfl ⟨_, rfl⟩) (envEq (put_ne rfl b78) (dPtr (l := p38) (o := 0) rfl) (envEq (put_ne rfl b79) (dNd rfl ⟨_, rfl⟩) (envEq (put_ne rfl e68) (dPtr (l := p67) (o := 0) rfl) (envEq (put_ne rfl b80) (dPtr (l := p6) (o := 0) rfl) (envEq (put_ne rfl b81) (dNd rfl ⟨_, rfl⟩) (envEq put_same (dTup' (dlCons (dAgg (dlCons (dNd rfl ⟨_, rfl, hy⟩) (dlCons (dNd rfl sS90.one) dlNil))) (dlCons (dNd rfl ⟨_, rfl⟩) dlNil))) envNil))))))))
    refine all1 (by kernel_rfl) ?_
    intro vs ls H105 E105 st hE
    obtain ⟨p106, e107, r108, n109⟩ := ptr_of st.inn hE 9 3 (by kernel_rfl) (ds := [.flt .f32 y, S90]) (by kernel_rfl)
    have op106 : H.next ≤ p106 := Nat.le_trans g98.next (n109 (Nat.le_of_ble_eq_true rfl))
    have ne110 : Apart p106 p6 := ⟨Nat.ne_of_gt (Nat.lt_of_lt_of_le (H89.lt_of_get r99) (n109 (Nat.le_of_ble_eq_true rfl)))⟩
    have ne111 : Apart p106 p38 := ⟨Nat.ne_of_gt (Nat.lt_of_lt_of_le (H89.lt_of_get r100) (n109 (Nat.le_of_ble_eq_true rfl)))⟩
    have ne112 : Apart p106 p67 := ⟨Nat.ne_of_gt (Nat.lt_of_lt_of_le (H89.lt_of_get r101) (n109 (Nat.le_of_ble_eq_true rfl)))⟩
    have ne113 : ApartL (S14) p106 := s102.apart_new (n109 (Nat.le_of_ble_eq_true rfl))
    have ne114 : ApartL (S30) p106 := s103.apart_new (n109 (Nat.le_of_ble_eq_true rfl))
    have ne115 : ApartL (S54) p106 := s104.apart_new (n109 (Nat.le_of_ble_eq_true rfl))
    have ne116 : ApartL (S90) p106 := sS90.apart_new (n109 (Nat.le_of_ble_eq_true rfl))
    have b117 : E105 46 = .agg [.flt .f32 x, S] := env_of st.inn hE 46 (by kernel_rfl)
    have b118 : E105 45 = .agg [.flt .f32 x, S54] := env_of st.inn hE 45 (by kernel_rfl)
    have b119 : E105 8 = .ptr p67 0 := env_of st.inn hE 8 (by kernel_rfl)
    have b120 : E105 6 = .ptr p38 0 := env_of st.inn hE 6 (by kernel_rfl)
    have b121 : E105 10 = .int .i64 c := env_of st.inn hE 10 (by kernel_rfl)
    have b122 : E105 7 = .int .i64 c := env_of st.inn hE 7 (by kernel_rfl)
    have b123 : E105 2 = .ptr p6 0 := env_of st.inn hE 2 (by kernel_rfl)
    have b124 : E105 1 = .int .i64 t := env_of st.inn hE 1 (by kernel_rfl)
    have g125 : Grew H89 H105 := (st.kept.grew (Nat.le_of_ble_eq_true (by kernel_rfl)))
    have g126 : Grew H H105 := Grew.trans g98 g125
    have r127 := g125.at r99
    have r128 := g125.at r100
    have r129 := g125.at r101
    have s130 := s102.grew g125
    have s131 := s103.grew g125
    have s132 := s104.grew g125
    have s133 := sS90.grew g125
    clear st hE vs ls
    refine res_kid (free := false) (d := (some 47)) (f := 32) (args := [.tmp 46]) (by kernel_rfl) (R := fun z H' => Grew H105 H' ∧ ∃ S', z = .agg [.flt .f32 x, S'] ∧ SlW H' 9 ms S' ∧ FreshS H105.next S') ?_ ?_
    · show ACalls _ _ [E105 46] _ _
      rw [b117]
      exact w_toLandMap H105 x hx ms hr S (hS.grew g126) mxms
    rintro z H135 ⟨gS134, S134, rfl, sS134, fS134⟩
    refine ⟨gS134, ?_⟩
    have ne136 : ApartL (S134) p6 := fS134.apartL (H105.lt_of_get r127)
    have ne137 : ApartL (S134) p38 := fS134.apartL (H105.lt_of_get r128)
    have ne138 : ApartL (S134) p67 := fS134.apartL (H105.lt_of_get r129)
    have ne139 : ApartL (S134) p106 := fS134.apartL (H105.lt_of_get r108)
    have ne140 : ApartS (S134) (S14) := fS134.apartS s130.lt
    have ne141 : ApartS (S134) (S30) := fS134.apartS s131.lt
    have ne142 : ApartS (S134) (S54) := fS134.apartS s132.lt
    have ne143 : ApartS (S134) (S90) := fS134.apartS s133.lt
    have fr144 : FreshS H.next (S134) := fS134.mono g126.next
    have g145 : Grew H H135 := Grew.trans g126 gS134
    have r146 := gS134.at r127
    have r147 := gS134.at r128
    have r148 := gS134.at r129
    have r149 := gS134.at r108
    have s150 := s130.grew gS134
    have s151 := s131.grew gS134
    have s152 := s132.grew gS134
    have s153 := s133.grew gS134
    refine run_mn (φ := φ0) (pm := pmR 4 [(.call 27 [.agg [.nd 0 (.flt .f32), .nd 8 .one], .agg [.nd 0 (.flt .f32), .nd 10 .one]], .lit (.bool true))] 0) 20 (nk := [(.atom 0, .flt .f32), (.atom 1, .one), (.atom 2, .int .i64), (.atom 3, .flt .f32), (.atom 4, .int .i64), (.atom 5, .int .i64), (.atom 6, .one), (.atom 7, .one), (.atom 8, .one), (.atom 9, .one), (.atom 10, .one)]) (fs := []) (xs := [.flt .f32 x, S, .int .i64 t, .flt .f32 y, .int .i64 c, .int .i64 q1, S14, S30, S54, S90, S134]) (ws := [⟨p6, 0, [.nd 0 (.flt .f32), .nd 1 .one], false⟩, ⟨p38, 0, [.nd 3 (.flt .f32), .nd 7 .one], false⟩, ⟨p67, 0, [.nd 0 (.flt .f32), .nd 8 .one], false⟩, ⟨p106, 0, [.nd 3 (.flt .f32), .nd 9 .one], false⟩]) (env := [(46, .agg [.nd 0 (.flt .f32), .nd 1 .one]), (45, .agg [.nd 0 (.flt .f32), .nd 8 .one]), (8, .ptr 2 0), (9, .ptr 3 0), (6, .ptr 1 0), (10, .nd 4 (.int .i64)), (7, .nd 4 (.int .i64)), (2, .ptr 0 0), (1, .nd 2 (.int .i64)), (47, .agg [.nd 0 (.flt .f32), .nd 10 .one])]) ?_ ?_ tb_ok ap_ok ?_
    · refine midN_in ?_ .nil _ ?_ ?_ ?_
      · exact (.cons rfl ⟨_, rfl, hx⟩ (.cons rfl (slOne hS) (.cons rfl ⟨_, rfl⟩ (.cons rfl ⟨_, rfl, hy⟩ (.cons rfl ⟨_, rfl⟩ (.cons rfl ⟨_, rfl⟩ (.cons rfl sS14.one (.cons rfl sS30.one (.cons rfl sS54.one (.cons rfl sS90.one (.cons rfl sS134.one .nil)))))))))))
      · exact (.cons (win_row r146 (dlCons (dNd rfl ⟨_, rfl, hx⟩) (dlCons (dNd rfl (slOne hS)) dlNil))) (.cons (win_row r147 (dlCons (dNd rfl ⟨_, rfl, hy⟩) (dlCons (dNd rfl sS30.one) dlNil))) (.cons (win_row r148 (dlCons (dNd rfl ⟨_, rfl, hx⟩) (dlCons (dNd rfl sS54.one) dlNil))) (.cons (win_row r149 (dlCons (dNd rfl ⟨_, rfl, hy⟩) (dlCons (dNd rfl sS90.one) dlNil))) .nil))))
      · exact sepOk_ro rfl
      · exact (.cons (rule_call (args := [.agg [.flt .f32 x, S54], .agg [.flt .f32 x, S134]]) (dlCons (dAgg (dlCons (dNd rfl ⟨_, rfl, hx⟩) (dlCons (dNd rfl sS54.one) dlNil))) (dlCons (dAgg (dlCons (dNd rfl ⟨_, rfl, hx⟩) (dlCons (dNd rfl sS134.one) dlNil))) dlNil)) (dLit rfl) (fun H9 hk => k_eqLandMap H9 x hx ms hr _ _ ((s152.grew (hk.grew (Nat.le_refl _)))).toL ((sS134.grew (hk.grew (Nat.le_refl _)))).toL (mx40 mxms))) .nil)
    · exact (envEq (put_ne rfl b117) (dAgg (dlCons (dNd rfl ⟨_, rfl, hx⟩) (dlCons (dNd rfl (slOne hS)) dlNil))) (envEq (put_ne rfl b118) (dAgg (dlCons (dNd rfl ⟨_, rfl, hx⟩) (dlCons (dNd rfl sS54.one) dlNil))) (envEq (put_ne rfl b119) (dPtr (l := p67) (o := 0) rfl) (envEq (put_ne rfl e107) (dPtr (l := p106) (o := 0) rfl) (envEq (put_ne rfl b120) (dPtr (l := p38) (o := 0) rfl) (envEq (put_ne rfl b121) (dNd rfl ⟨_, rfl⟩) (envEq (put_ne rfl b122) (dNd rfl ⟨_, rfl⟩) (envEq (put_ne rfl b123) (dPtr (l := p6) (o := 0) rfl) (envEq (put_ne rfl b124) (dNd rfl ⟨_, rfl⟩) (envEq put_same (dAgg (dlCons (dNd rfl ⟨_, rfl, hx⟩) (dlCons (dNd rfl sS134.one) dlNil))) envNil))))))))))
    refine all1 (by kernel_rfl) ?_
    intro vs ls H154 E154 st hE
    have b155 : E154 50 = .agg [.flt .f32 x, S54] := env_of st.inn hE 50 (by kernel_rfl)
    have b156 : E154 51 = .int .i64 1 := env_of st.inn hE 51 (by kernel_rfl)
    have b157 : E154 11 = .int .i64 1 := env_of st.inn hE 11 (by kernel_rfl)
    have b158 : E154 9 = .ptr p106 0 := env_of st.inn hE 9 (by kernel_rfl)
    have b159 : E154 6 = .ptr p38 0 := env_of st.inn hE 6 (by kernel_rfl)
    have b160 : E154 10 = .int .i64 c := env_of st.inn hE 10 (by kernel_rfl)
    have b161 : E154 7 = .int .i64 c := env_of st.inn hE 7 (by kernel_rfl)
    have b162 : E154 2 = .ptr p6 0 := env_of st.inn hE 2 (by kernel_rfl)
    have b163 : E154 1 = .int .i64 t := env_of st.inn hE 1 (by kernel_rfl)
    have g164 : Grew H135 H154 := (st.kept.grew (Nat.le_of_ble_eq_true (by kernel_rfl)))
    have g165 : Grew H H154 := Grew.trans g145 g164
    have r166 := g164.at r146
    have r167 := g164.at r147
    have r168 := g164.at r148
    have r169 := g164.at r149
    have s170 := s150.grew g164
    have s171 := s151.grew g164
    have s172 := s152.grew g164
    have s173 := s153.grew g164
    have s174 := sS134.grew g164
    clear st hE vs ls
    refine res_call (d := (some 52)) (f := 28) (args := [.tmp 50, .tmp 51]) (by kernel_rfl) (R := fun z H' => z = .int .i64 (1 + 9 * (ms.length : Int)) ∧ OnlyS S54 H154 H' ∧ SlW H' 9 (mksMark 1 ms.length) S54) ?_ ?_
    · show ACalls _ _ [E154 50, E154 51] _ _
      rw [b155, b156]
      exact w_markLandMap H154 x hx ms hr S54 s172 1 (by decide) (by decide) mxms
    rintro z H175 ⟨rfl, oH175, nH175⟩
    have g176 : Grew H H175 := OnlyS.own g165 fr60 oH175
    have r177 := oH175.at r166 (by assumption)
    have r178 := oH175.at r167 (by assumption)
    have r179 := oH175.at r169 (by assumption)
    have s180 := s170.only oH175 (by first | assumption | exact ApartS.symm (by assumption))
    have s181 := s171.only oH175 (by first | assumption | exact ApartS.symm (by assumption))
    have s182 := s173.only oH175 (by first | assumption | exact ApartS.symm (by assumption))
    have s183 := s174.only oH175 (by first | assumption | exact ApartS.symm (by assumption))
    refine run_mn (φ := φ0) (pm := pmR 3 [(.call 27 [.agg [.nd 3 (.flt .f32), .nd 9 .one], .agg [.nd 3 (.flt .f32), .nd 7 .one]], .lit (.bool true))] 0) 20 (nk := [(.atom 0, .flt .f32), (.atom 1, .one), (.atom 2, .int .i64), (.atom 3, .flt .f32), (.atom 4, .int .i64), (.atom 5, .int .i64), (.atom 6, .one), (.atom 7, .one), (.atom 8, .one), (.atom 9, .one), (.atom 10, .one), (.atom 11, .int .i64)]) (fs := []) (xs := [.flt .f32 x, S, .int .i64 t, .flt .f32 y, .int .i64 c, .int .i64 q1, S14, S30, S54, S90, S134, .int .i64 (1 + 9 * (ms.length : Int))]) (ws := [⟨p6, 0, [.nd 0 (.flt .f32), .nd 1 .one], false⟩, ⟨p38, 0, [.nd 3 (.flt .f32), .nd 7 .one], false⟩, ⟨p106, 0, [.nd 3 (.flt .f32), .nd 9 .one], false⟩]) (env := [(50, .agg [.nd 0 (.flt .f32), .nd 8 .one]), (51, .lit (.int .i64 1)), (11, .lit (.int .i64 1)), (9, .ptr 2 0), (6, .ptr 1 0), (10, .nd 4 (.int .i64)), (7, .nd 4 (.int .i64)), (2, .ptr 0 0), (1, .nd 2 (.int .i64)), (52, .nd 11 (.int .i64))]) ?_ ?_ tb_ok ap_ok ?_
    · refine midN_in ?_ .nil _ ?_ ?_ ?_
      · exact (.cons rfl ⟨_, rfl, hx⟩ (.cons rfl (slOne hS) (.cons rfl ⟨_, rfl⟩ (.cons rfl ⟨_, rfl, hy⟩ (.cons rfl ⟨_, rfl⟩ (.cons rfl ⟨_, rfl⟩ (.cons rfl sS14.one (.cons rfl sS30.one (.cons rfl sS54.one (.cons rfl sS90.one (.cons rfl sS134.one (.cons rfl ⟨_, rfl⟩ .nil))))))))))))
      · exact (.cons (win_row r177 (dlCons (dNd rfl ⟨_, rfl, hx⟩) (dlCons (dNd rfl (slOne hS)) dlNil))) (.cons (win_row r178 (dlCons (dNd rfl ⟨_, rfl, hy⟩) (dlCons (dNd rfl sS30.one) dlNil))) (.cons (win_row r179 (dlCons (dNd rfl ⟨_, rfl, hy⟩) (dlCons (dNd rfl sS90.one) dlNil))) .nil)))
      · exact sepOk_ro rfl
      · exact (.cons (rule_call (args := [.agg [.flt .f32 y, S90], .agg [.flt .f32 y, S30]]) (dlCons (dAgg (dlCons (dNd rfl ⟨_, rfl, hy⟩) (dlCons (dNd rfl sS90.one) dlNil))) (dlCons (dAgg (dlCons (dNd rfl ⟨_, rfl, hy⟩) (dlCons (dNd rfl sS30.one) dlNil))) dlNil)) (dLit rfl) (fun H9 hk => k_eqLandMap H9 y hy L hL _ _ ((s182.grew (hk.grew (Nat.le_refl _)))).toL ((s181.grew (hk.grew (Nat.le_refl _)))).toL (mx40 mxL))) .nil)
    · exact (envEq (put_ne rfl b155) (dAgg (dlCons (dNd rfl ⟨_, rfl, hx⟩) (dlCons (dNd rfl sS54.one) dlNil))) (envEq (put_ne rfl b156) (dLit rfl) (envEq (put_ne rfl b157) (dLit rfl) (envEq (put_ne rfl b158) (dPtr (l := p106) (o := 0) rfl) (envEq (put_ne rfl b159) (dPtr (l := p38) (o := 0) rfl) (envEq (put_ne rfl b160) (dNd rfl ⟨_, rfl⟩) (envEq (put_ne rfl b161) (dNd rfl ⟨_, rfl⟩) (envEq (put_ne rfl b162) (dPtr (l := p6) (o := 0) rfl) (envEq (put_ne rfl b163) (dNd rfl ⟨_, rfl⟩) (envEq put_same (dNd rfl ⟨_, rfl⟩) envNil))))))))))
    refine all2 (by kernel_rfl) ?_ ?_
    ·
      intro vs ls H184 E184 st hE
      have f185 : (1 + 9 * (ms.length : Int)) < 0 := of_decide_eq_true (bfact (x := decide ((1 + 9 * (ms.length : Int)) < 0)) st.inn 0 (by kernel_rfl))
      exact absurd f185 (by omega)
    ·
      intro vs ls H186 E186 st hE
      have f187 : ¬ ((1 + 9 * (ms.length : Int)) < 0) := of_decide_eq_false (bfact (x := decide ((1 + 9 * (ms.length : Int)) < 0)) st.inn 0 (by kernel_rfl))
      have b188 : E186 66 = .agg [.flt .f32 y, S90] := env_of st.inn hE 66 (by kernel_rfl)
      have b189 : E186 67 = .int .i64 1 := env_of st.inn hE 67 (by kernel_rfl)
      have b190 : E186 9 = .ptr p106 0 := env_of st.inn hE 9 (by kernel_rfl)
      have b191 : E186 12 = .int .i64 1 := env_of st.inn hE 12 (by kernel_rfl)
      have b192 : E186 2 = .ptr p6 0 := env_of st.inn hE 2 (by kernel_rfl)
      have b193 : E186 1 = .int .i64 t := env_of st.inn hE 1 (by kernel_rfl)
      have b194 : E186 6 = .ptr p38 0 := env_of st.inn hE 6 (by kernel_rfl)
      have b195 : E186 7 = .int .i64 c := env_of st.inn hE 7 (by kernel_rfl)
      have g196 : Grew H175 H186 := (st.kept.grew (Nat.le_of_ble_eq_true (by kernel_rfl)))
      have g197 : Grew H H186 := Grew.trans g176 g196
      have r198 := g196.at r177
      have r199 := g196.at r178
      have r200 := g196.at r179
      have s201 := s180.grew g196
      have s202 := s181.grew g196
      have s203 := nH175.grew g196
      have s204 := s182.grew g196
      have s205 := s183.grew g196
      clear st hE vs ls
      refine res_call (d := (some 68)) (f := 28) (args := [.tmp 66, .tmp 67]) (by kernel_rfl) (R := fun z H' => z = .int .i64 (1 + 9 * (L.length : Int)) ∧ OnlyS S90 H186 H' ∧ SlW H' 9 (mksMark 1 L.length) S90) ?_ ?_
      · show ACalls _ _ [E186 66, E186 67] _ _
        rw [b188, b189]
        exact w_markLandMap H186 y hy L hL S90 s204 1 (by decide) (by decide) mxL
      rintro z H206 ⟨rfl, oH206, nH206⟩
      have g207 : Grew H H206 := OnlyS.own g197 fr97 oH206
      have r208 := oH206.at r198 (by assumption)
      have r209 := oH206.at r199 (by assumption)
      have r210 := oH206.at r200 (by assumption)
      have s211 := s201.only oH206 (by first | assumption | exact ApartS.symm (by assumption))
      have s212 := s202.only oH206 (by first | assumption | exact ApartS.symm (by assumption))
      have s213 := s203.only oH206 (by first | assumption | exact ApartS.symm (by assumption))
      have s214 := s205.only oH206 (by first | assumption | exact ApartS.symm (by assumption))
      refine run_mn (φ := φ0) (pm := pmR 3 [(.call 29 [.agg [.nd 3 (.flt .f32), .nd 9 .one], .lit (.int .i64 1)], .nd 12 (.int .i64))] 0) 20 (nk := [(.atom 0, .flt .f32), (.atom 1, .one), (.atom 2, .int .i64), (.atom 3, .flt .f32), (.atom 4, .int .i64), (.atom 5, .int .i64), (.atom 6, .one), (.atom 7, .one), (.atom 8, .one), (.atom 9, .one), (.atom 10, .one), (.atom 11, .int .i64), (.atom 12, .int .i64)]) (fs := []) (xs := [.flt .f32 x, S, .int .i64 t, .flt .f32 y, .int .i64 c, .int .i64 q1, S14, S30, S54, S90, S134, .int .i64 (1 + 9 * (ms.length : Int)), .int .i64 (1 + 9 * (L.length : Int))]) (ws := [⟨p6, 0, [.nd 0 (.flt .f32), .nd 1 .one], false⟩, ⟨p38, 0, [.nd 3 (.flt .f32), .nd 7 .one], false⟩, ⟨p106, 0, [.nd 3 (.flt .f32), .nd 9 .one], false⟩]) (env := [(66, .agg [.nd 3 (.flt .f32), .nd 9 .one]), (67, .lit (.int .i64 1)), (9, .ptr 2 0), (12, .lit (.int .i64 1)), (2, .ptr 0 0), (1, .nd 2 (.int .i64)), (6, .ptr 1 0), (7, .nd 4 (.int .i64)), (68, .nd 12 (.int .i64))]) ?_ ?_ tb_ok ap_ok ?_
      · refine midN_in ?_ .nil _ ?_ ?_ ?_
        · exact (.cons rfl ⟨_, rfl, hx⟩ (.cons rfl (slOne hS) (.cons rfl ⟨_, rfl⟩ (.cons rfl ⟨_, rfl, hy⟩ (.cons rfl ⟨_, rfl⟩ (.cons rfl ⟨_, rfl⟩ (.cons rfl sS14.one (.cons rfl sS30.one (.cons rfl sS54.one (.cons rfl sS90.one (.cons rfl sS134.one (.cons rfl ⟨_, rfl⟩ (.cons rfl ⟨_, rfl⟩ .nil)))))))))))))
        · exact (.cons (win_row r208 (dlCons (dNd rfl ⟨_, rfl, hx⟩) (dlCons (dNd rfl (slOne hS)) dlNil))) (.cons (win_row r209 (dlCons (dNd rfl ⟨_, rfl, hy⟩) (dlCons (dNd rfl sS30.one) dlNil))) (.cons (win_row r210 (dlCons (dNd rfl ⟨_, rfl, hy⟩) (dlCons (dNd rfl sS90.one) dlNil))) .nil)))
        · exact sepOk_ro rfl
        · exact (.cons (rule_call (args := [.agg [.flt .f32 y, S90], .int .i64 1]) (dlCons (dAgg (dlCons (dNd rfl ⟨_, rfl, hy⟩) (dlCons (dNd rfl sS90.one) dlNil))) (dlCons (dLit rfl) dlNil)) (dNd rfl ⟨_, rfl⟩) (fun H9 hk => w_heldLandMap H9 y hy 1 L.length S90 ((nH206.grew (hk.grew (Nat.le_refl _)))).toL (by decide) (by decide) mxL)) .nil)
      · exact (envEq (put_ne rfl b188) (dAgg (dlCons (dNd rfl ⟨_, rfl, hy⟩) (dlCons (dNd rfl sS90.one) dlNil))) (envEq (put_ne rfl b189) (dLit rfl) (envEq (put_ne rfl b190) (dPtr (l := p106) (o := 0) rfl) (envEq (put_ne rfl b191) (dLit rfl) (envEq (put_ne rfl b192) (dPtr (l := p6) (o := 0) rfl) (envEq (put_ne rfl b193) (dNd rfl ⟨_, rfl⟩) (envEq (put_ne rfl b194) (dPtr (l := p38) (o := 0) rfl) (envEq (put_ne rfl b195) (dNd rfl ⟨_, rfl⟩) (envEq put_same (dNd rfl ⟨_, rfl⟩) envNil)))))))))
      refine all2 (by kernel_rfl) ?_ ?_
      ·
        intro vs ls H215 E215 st hE
        have f216 : (1 + 9 * (L.length : Int)) < 0 := of_decide_eq_true (bfact (x := decide ((1 + 9 * (L.length : Int)) < 0)) st.inn 0 (by kernel_rfl))
        exact absurd f216 (by omega)
      ·
        intro vs ls H217 E217 st hE
        have f218 : ¬ ((1 + 9 * (L.length : Int)) < 0) := of_decide_eq_false (bfact (x := decide ((1 + 9 * (L.length : Int)) < 0)) st.inn 0 (by kernel_rfl))
        have b219 : E217 78 = .agg [.flt .f32 x, S] := env_of st.inn hE 78 (by kernel_rfl)
        have b220 : E217 1 = .int .i64 t := env_of st.inn hE 1 (by kernel_rfl)
        have b221 : E217 6 = .ptr p38 0 := env_of st.inn hE 6 (by kernel_rfl)
        have b222 : E217 7 = .int .i64 c := env_of st.inn hE 7 (by kernel_rfl)
        have b223 : E217 9 = .ptr p106 0 := env_of st.inn hE 9 (by kernel_rfl)
        have b224 : E217 13 = .int .i64 (1 + 9 * (L.length : Int)) := env_of st.inn hE 13 (by kernel_rfl)
        have b225 : E217 12 = .int .i64 (1 + 9 * (L.length : Int)) := env_of st.inn hE 12 (by kernel_rfl)
        have g226 : Grew H206 H217 := (st.kept.grew (Nat.le_of_ble_eq_true (by kernel_rfl)))
        have g227 : Grew H H217 := Grew.trans g207 g226
        have r228 := g226.at r208
        have r229 := g226.at r209
        have r230 := g226.at r210
        have s231 := s211.grew g226
        have s232 := s212.grew g226
        have s233 := s213.grew g226
        have s234 := nH206.grew g226
        have s235 := s214.grew g226
        clear st hE vs ls
        refine res_call (d := (some 79)) (f := 32) (args := [.tmp 78]) (by kernel_rfl) (R := fun z H' => Grew H217 H' ∧ ∃ S', z = .agg [.flt .f32 x, S'] ∧ SlW H' 9 ms S' ∧ FreshS H217.next S') ?_ ?_
        · show ACalls _ _ [E217 78] _ _
          rw [b219]
          exact w_toLandMap H217 x hx ms hr S (hS.grew g227) mxms
        rintro z H237 ⟨gS236, S236, rfl, sS236, fS236⟩
        have ne238 : ApartL (S236) p38 := fS236.apartL (H217.lt_of_get r229)
        have ne239 : ApartL (S236) p106 := fS236.apartL (H217.lt_of_get r230)
        have ne240 : ApartS (S236) (S14) := fS236.apartS s231.lt
        have ne241 : ApartS (S236) (S30) := fS236.apartS s232.lt
        have ne242 : ApartS (S236) (S54) := fS236.apartS s233.lt
        have ne243 : ApartS (S236) (S90) := fS236.apartS s234.lt
        have ne244 : ApartS (S236) (S134) := fS236.apartS s235.lt
        have fr245 : FreshS H.next (S236) := fS236.mono g227.next
        have g246 : Grew H H237 := Grew.trans g227 gS236
        have r247 := gS236.at r229
        have r248 := gS236.at r230
        have s249 := s231.grew gS236
        have s250 := s232.grew gS236
        have s251 := s233.grew gS236
        have s252 := s234.grew gS236
        have s253 := s235.grew gS236
        refine run_mn (φ := φ0) (pm := pmR 2 [] 0) 20 (nk := [(.atom 0, .flt .f32), (.atom 1, .one), (.atom 2, .int .i64), (.atom 3, .flt .f32), (.atom 4, .int .i64), (.atom 5, .int .i64), (.atom 6, .one), (.atom 7, .one), (.atom 8, .one), (.atom 9, .one), (.atom 10, .one), (.atom 11, .int .i64), (.atom 12, .int .i64), (.atom 13, .one)]) (fs := []) (xs := [.flt .f32 x, S, .int .i64 t, .flt .f32 y, .int .i64 c, .int .i64 q1, S14, S30, S54, S90, S134, .int .i64 (1 + 9 * (ms.length : Int)), .int .i64 (1 + 9 * (L.length : Int)), S236]) (ws := [⟨p38, 0, [.nd 3 (.flt .f32), .nd 7 .one], false⟩, ⟨p106, 0, [.nd 3 (.flt .f32), .nd 9 .one], false⟩]) (env := [(78, .agg [.nd 0 (.flt .f32), .nd 1 .one]), (1, .nd 2 (.int .i64)), (6, .ptr 0 0), (7, .nd 4 (.int .i64)), (9, .ptr 1 0), (13, .nd 12 (.int .i64)), (12, .nd 12 (.int .i64)), (79, .agg [.nd 0 (.flt .f32), .nd 13 .one])]) ?_ ?_ tb_ok ap_ok ?_
        · refine midN_in ?_ .nil _ ?_ ?_ ?_
          · exact (.cons rfl ⟨_, rfl, hx⟩ (.cons rfl (slOne hS) (.cons rfl ⟨_, rfl⟩ (.cons rfl ⟨_, rfl, hy⟩ (.cons rfl ⟨_, rfl⟩ (.cons rfl ⟨_, rfl⟩ (.cons rfl sS14.one (.cons rfl sS30.one (.cons rfl sS54.one (.cons rfl sS90.one (.cons rfl sS134.one (.cons rfl ⟨_, rfl⟩ (.cons rfl ⟨_, rfl⟩ (.cons rfl sS236.one .nil))))))))))))))
          · exact (.cons (win_row r247 (dlCons (dNd rfl ⟨_, rfl, hy⟩) (dlCons (dNd rfl sS30.one) dlNil))) (.cons (win_row r248 (dlCons (dNd rfl ⟨_, rfl, hy⟩) (dlCons (dNd rfl sS90.one) dlNil))) .nil))
          · exact sepOk_ro rfl
          · exact .nil
        · exact (envEq (put_ne rfl b219) (dAgg (dlCons (dNd rfl ⟨_, rfl, hx⟩) (dlCons (dNd rfl (slOne hS)) dlNil))) (envEq (put_ne rfl b220) (dNd rfl ⟨_, rfl⟩) (envEq (put_ne rfl b221) (dPtr (l := p38) (o := 0) rfl) (envEq (put_ne rfl b222) (dNd rfl ⟨_, rfl⟩) (envEq (put_ne rfl b223) (dPtr (l := p106) (o := 0) rfl) (envEq (put_ne rfl b224) (dNd rfl ⟨_, rfl⟩) (envEq (put_ne rfl b225) (dNd rfl ⟨_, rfl⟩) (envEq put_same (dAgg (dlCons (dNd rfl ⟨_, rfl, hx⟩) (dlCons (dNd rfl sS236.one) dlNil))) envNil))))))))
        refine all1 (by kernel_rfl) ?_
        intro vs ls H254 E254 st hE
        have b255 : E254 79 = .agg [.flt .f32 x, S236] := env_of st.inn hE 79 (by kernel_rfl)
        have b256 : E254 80 = .int .i64 t := env_of st.inn hE 80 (by kernel_rfl)
        have b257 : E254 6 = .ptr p38 0 := env_of st.inn hE 6 (by kernel_rfl)
        have b258 : E254 7 = .int .i64 c := env_of st.inn hE 7 (by kernel_rfl)
        have b259 : E254 9 = .ptr p106 0 := env_of st.inn hE 9 (by kernel_rfl)
        have b260 : E254 13 = .int .i64 (1 + 9 * (L.length : Int)) := env_of st.inn hE 13 (by kernel_rfl)
        have b261 : E254 12 = .int .i64 (1 + 9 * (L.length : Int)) := env_of st.inn hE 12 (by kernel_rfl)
        have g262 : Grew H237 H254 := (st.kept.grew (Nat.le_of_ble_eq_true (by kernel_rfl)))
        have g263 : Grew H H254 := Grew.trans g246 g262
        have r264 := g262.at r247
        have r265 := g262.at r248
        have s266 := s249.grew g262
        have s267 := s250.grew g262
        have s268 := s251.grew g262
        have s269 := s252.grew g262
        have s270 := s253.grew g262
        have s271 := sS236.grew g262
        clear st hE vs ls
        refine res_call (d := (some 81)) (f := 43) (args := [.tmp 79, .tmp 80]) (by kernel_rfl) (R := fun z H' => Grew H254 H' ∧ ∃ S', z = .tuple [.agg [.flt .f32 y, S'], .int .i64 c] ∧ SlW H' 9 L S' ∧ FreshS H254.next S') ?_ ?_
        · show ACalls _ _ [E254 79, E254 80] _ _
          rw [b255, b256]
          exact (by have h9 := k_impl_ForgetBefore H254 x hx ms hr (S236) s271.toL mxms t; rw [hV] at h9; exact h9)
        rintro z H272 ⟨gH272, S273, rfl, sS273, fS273⟩
        have ne274 : ApartL (S273) p38 := fS273.apartL (H254.lt_of_get r264)
        have ne275 : ApartL (S273) p106 := fS273.apartL (H254.lt_of_get r265)
        have ne276 : ApartS (S273) (S14) := fS273.apartS s266.lt
        have ne277 : ApartS (S273) (S30) := fS273.apartS s267.lt
        have ne278 : ApartS (S273) (S54) := fS273.apartS s268.lt
        have ne279 : ApartS (S273) (S90) := fS273.apartS s269.lt
        have ne280 : ApartS (S273) (S134) := fS273.apartS s270.lt
        have ne281 : ApartS (S273) (S236) := fS273.apartS s271.lt
        have fr282 : FreshS H.next (S273) := fS273.mono g263.next
        have g283 : Grew H H272 := Grew.trans g263 gH272
        have r284 := gH272.at r264
        have r285 := gH272.at r265
        have s286 := s266.grew gH272
        have s287 := s267.grew gH272
        have s288 := s268.grew gH272
        have s289 := s269.grew gH272
        have s290 := s270.grew gH272
        have s291 := s271.grew gH272
        refine run_mn (φ := φ0) (pm := pmR 2 [(.call 27 [.agg [.nd 3 (.flt .f32), .nd 14 .one], .agg [.nd 3 (.flt .f32), .nd 7 .one]], .lit (.bool true)), (.call 29 [.agg [.nd 3 (.flt .f32), .nd 9 .one], .lit (.int .i64 1)], .nd 12 (.int .i64))] 0) 20 (nk := [(.atom 0, .flt .f32), (.atom 1, .one), (.atom 2, .int .i64), (.atom 3, .flt .f32), (.atom 4, .int .i64), (.atom 5, .int .i64), (.atom 6, .one), (.atom 7, .one), (.atom 8, .one), (.atom 9, .one), (.atom 10, .one), (.atom 11, .int .i64), (.atom 12, .int .i64), (.atom 13, .one), (.atom 14, .one)]) (fs := []) (xs := [.flt .f32 x, S, .int .i64 t, .flt .f32 y, .int .i64 c, .int .i64 q1, S14, S30, S54, S90, S134, .int .i64 (1 + 9 * (ms.length : Int)), .int .i64 (1 + 9 * (L.length : Int)), S236, S273]) (ws := [⟨p38, 0, [.nd 3 (.flt .f32), .nd 7 .one], false⟩, ⟨p106, 0, [.nd 3 (.flt .f32), .nd 9 .one], false⟩]) (env := [(79, .agg [.nd 0 (.flt .f32), .nd 13 .one]), (80, .nd 2 (.int .i64)), (6, .ptr 0 0), (7, .nd 4 (.int .i64)), (9, .ptr 1 0), (13, .nd 12 (.int .i64)), (12, .nd 12 (.int .i64)), (81, .tup [.agg [.nd 3 (.flt .f32), .nd 14 .one], .nd 4 (.int .i64)])]) ?_ ?_ tb_ok ap_ok ?_
        · refine midN_in ?_ .nil _ ?_ ?_ ?_
          · exact (.cons rfl ⟨_, rfl, hx⟩ (.cons rfl (slOne hS) (.cons rfl ⟨_, rfl⟩ (.cons rfl ⟨_, rfl, hy⟩ (.cons rfl ⟨_, rfl⟩ (.cons rfl ⟨_, rfl⟩ (.cons rfl sS14.one (.cons rfl sS30.one (.cons rfl sS54.one (.cons rfl sS90.one (.cons rfl sS134.one (.cons rfl ⟨_, rfl⟩ (.cons rfl ⟨_, rfl⟩ (.cons rfl sS236.one (.cons rfl sS273.one .nil)))))))))))))))
          · exact (.cons (win_row r284 (dlCons (dNd rfl ⟨_, rfl, hy⟩) (dlCons (dNd rfl sS30.one) dlNil))) (.cons (win_row r285 (dlCons (dNd rfl ⟨_, rfl, hy⟩) (dlCons (dNd rfl sS90.one) dlNil))) .nil))
          · exact sepOk_ro rfl
          · exact (.cons (rule_call (args := [.agg [.flt .f32 y, S273], .agg [.flt .f32 y, S30]]) (dlCons (dAgg (dlCons (dNd rfl ⟨_, rfl, hy⟩) (dlCons (dNd rfl sS273.one) dlNil))) (dlCons (dAgg (dlCons (dNd rfl ⟨_, rfl, hy⟩) (dlCons (dNd rfl sS30.one) dlNil))) dlNil)) (dLit rfl) (fun H9 hk => k_eqLandMap H9 y hy L hL _ _ ((sS273.grew (hk.grew (Nat.le_refl _)))).toL ((s287.grew (hk.grew (Nat.le_refl _)))).toL (mx40 mxL))) (.cons (rule_call (args := [.agg [.flt .f32 y, S90], .int .i64 1]) (dlCons (dAgg (dlCons (dNd rfl ⟨_, rfl, hy⟩) (dlCons (dNd rfl sS90.one) dlNil))) (dlCons (dLit rfl) dlNil)) (dNd rfl ⟨_, rfl⟩) (fun H9 hk => w_heldLandMap H9 y hy 1 L.length S90 ((s289.grew (hk.grew (Nat.le_refl _)))).toL (by decide) (by decide) mxL)) .nil))
        · exact (envEq (put_ne rfl b255) (dAgg (dlCons (dNd rfl ⟨_, rfl, hx⟩) (dlCons (dNd rfl sS236.one) dlNil))) (envEq (put_ne rfl b256) (dNd rfl ⟨_, rfl⟩) (envEq (put_ne rfl b257) (dPtr (l := p38) (o := 0) rfl) (envEq (put_ne rfl b258) (dNd rfl ⟨_, rfl⟩) (envEq (put_ne rfl b259) (dPtr (l := p106) (o := 0) rfl) (envEq (put_ne rfl b260) (dNd rfl ⟨_, rfl⟩) (envEq (put_ne rfl b261) (dNd rfl ⟨_, rfl⟩) (envEq put_same (dTup' (dlCons (dAgg (dlCons (dNd rfl ⟨_, rfl, hy⟩) (dlCons (dNd rfl sS273.one) dlNil))) (dlCons (dNd rfl ⟨_, rfl⟩) dlNil))) envNil))))))))
        refine all2 (by kernel_rfl) ?_ ?_
        ·
          intro vs ls H292 E292 st hE
          have f293 : (1 + 9 * (L.length : Int)) < 0 := of_decide_eq_true (bfact (x := decide ((1 + 9 * (L.length : Int)) < 0)) st.inn 0 (by kernel_rfl))
          exact absurd f293 (by omega)
        ·
          intro vs ls H294 E294 st hE
          have f295 : ¬ ((1 + 9 * (L.length : Int)) < 0) := of_decide_eq_false (bfact (x := decide ((1 + 9 * (L.length : Int)) < 0)) st.inn 0 (by kernel_rfl))
          exact res_ex (by kernel_rfl) (end_same st.inn hE (.inr rfl) (a := .bool true) (by kernel_rfl) (Nat.le_trans g283.next st.kept.1) rfl)
end Go.Proofs.Ytgjhjemmddojfaa
