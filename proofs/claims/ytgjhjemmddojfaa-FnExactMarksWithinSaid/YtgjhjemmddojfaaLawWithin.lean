/- The law of MarksWithin, walked. -/
import Derived.Test.YtgjhjemmddojfaaWithinB
set_option linter.unusedVariables false
set_option linter.unusedSimpArgs false
namespace Go.Proofs.Ytgjhjemmddojfaa
open Go.Ab
set_option maxRecDepth 100000
set_option maxHeartbeats 1000000
attribute [local irreducible] Res
theorem withinV_ok {x : Option Nat} {ms L : List (List AV)} {v : List AV} {r : Option Nat} {c : Int} (h : withinV x ms v r = (L, c)) (hr : Recs KM ms) (hl : ms.length ≤ 1048576) : Recs KM L ∧ L.length ≤ 1048576 := by
  unfold withinV at h
  split at h
  · cases h; exact ⟨.nil, by decide⟩
  · split at h
    · cases h; exact ⟨recs_filter hr, Nat.le_trans (List.length_filter_le _ _) hl⟩
    · cases h; exact ⟨.nil, by decide⟩
theorem vecArg {H : AHeap} {a : AV} (h : FitArg H (true, [.flt .f32, .flt .f32, .flt .f32]) a) : ∃ ya yb yc : Option Nat, a = .agg [.flt .f32 ya, .flt .f32 yb, .flt .f32 yc] ∧ fOk .f32 ya ∧ fOk .f32 yb ∧ fOk .f32 yc := by
  obtain ⟨cs, rfl, hl, hc⟩ := h
  match cs, hl with
  | [c0, c1, c2], _ =>
    have h0 := hc 0 _ _ rfl rfl
    have h1 := hc 1 _ _ rfl rfl
    have h2 := hc 2 _ _ rfl rfl
    cases h0 with | flt h0 => cases h1 with | flt h1 => cases h2 with | flt h2 =>
    exact ⟨_, _, _, rfl, h0, h1, h2⟩
theorem k_toVec (ya yb yc : Option Nat) (qa : fOk .f32 ya) (qb : fOk .f32 yb) (qc : fOk .f32 yc) (H : AHeap) : APure Try.prog 22 [.agg [.flt .f32 ya, .flt .f32 yb, .flt .f32 yc]] H (.agg [.flt .f32 ya, .flt .f32 yb, .flt .f32 yc]) := by
  refine res_start h_laws_toVec (by simp) ?_
  refine run_mn (φ := φ0) (pm := pmR 0 [] 10) 20 (nk := [(.atom 0, .flt .f32), (.atom 1, .flt .f32), (.atom 2, .flt .f32)]) (fs := []) (xs := [.flt .f32 ya, .flt .f32 yb, .flt .f32 yc]) (ws := []) (env := [(0, .agg [.nd 0 (.flt .f32), .nd 1 (.flt .f32), .nd 2 (.flt .f32)])]) ?_ ?_ tb_ok ap_ok ?_
  · refine midN_in ?_ .nil _ ?_ ?_ ?_
    · exact (.cons rfl ⟨_, rfl, qa⟩ (.cons rfl ⟨_, rfl, qb⟩ (.cons rfl ⟨_, rfl, qc⟩ .nil)))
    · exact .nil
    · exact sepOk_ro rfl
    · exact .nil
  · exact (envEq rfl (dAgg (dlCons (dNd rfl ⟨_, rfl, qa⟩) (dlCons (dNd rfl ⟨_, rfl, qb⟩) (dlCons (dNd rfl ⟨_, rfl, qc⟩) dlNil)))) envNil)
  refine all1 (by kernel_rfl) ?_
  intro vs ls H1 E1 st hE
  refine res_ex (by kernel_rfl) (end_flat st.inn hE (.inr rfl) (a := .agg [.flt .f32 ya, .flt .f32 yb, .flt .f32 yc]) (by kernel_rfl) (Grew.trans (Grew.refl _) (st.kept.grew (Nat.le_of_ble_eq_true (by kernel_rfl)))) rfl ⟨?_, rfl⟩)
  rfl
theorem lawExactMarksWithin (H : AHeap) (vs : List AV) (h : FitArgs H [(true, [.flt .f32, .sl [.int .i32, .int .i32, .int .i32, .flt .f32, .flt .f32, .flt .f32, .flt .f32, .int .i64, .int .i64]]), (true, [.flt .f32, .flt .f32, .flt .f32]), (false, [.flt .f32])] vs) : ACalls Try.prog 13 vs H fun r _ => r = .bool true := by
  match vs, h with
  | [a, b, d], h =>
  obtain ⟨x, ms, S, rfl, hx, hr, hS, hmx⟩ := mapArg h.1
  obtain ⟨ya, yb, yc, rfl, qa, qb, qc⟩ := vecArg h.2.1
  obtain ⟨sb, eb, fb⟩ := h.2.2.1
  cases eb
  cases fb
  rename_i rad hrad
  clear h
  obtain ⟨L, c, hV⟩ : ∃ L c, withinV x ms [.flt .f32 ya, .flt .f32 yb, .flt .f32 yc] rad = (L, c) := ⟨_, _, rfl⟩
  refine res_start h_laws_FnExactMarksWithin (by simp) ?_
  obtain ⟨q1, kq1, hq1⟩ : ∃ r : Int, (∀ H9, Grew H H9 → APure Try.prog 30 [.agg [.flt .f32 x, S], .int .i64 1048576] H9 (.int .i64 r)) ∧ (r < 0 ∨ r = 1048576 - ms.length) := ⟨_, fun H9 hk => k_szLandMap H9 x hx ms S (hS.grew (Grew.trans (Grew.refl _) hk)) 1048576 (by omega) (by omega) hmx, by split <;> omega⟩
  refine run_mn (φ := φ0) (pm := pmR 0 [(.call 30 [.agg [.nd 0 (.flt .f32), .nd 1 .one], .lit (.int .i64 1048576)], .nd 7 (.int .i64))] 0) 20 (nk := [(.atom 0, .flt .f32), (.atom 1, .one), (.atom 2, .flt .f32), (.atom 3, .flt .f32), (.atom 4, .flt .f32), (.atom 5, .flt .f32), (.atom 6, .int .i64), (.atom 7, .int .i64)]) (fs := []) (xs := [.flt .f32 x, S, .flt .f32 ya, .flt .f32 yb, .flt .f32 yc, .flt .f32 rad, .int .i64 c, .int .i64 q1]) (ws := []) (env := [(0, .agg [.nd 0 (.flt .f32), .nd 1 .one]), (1, .agg [.nd 2 (.flt .f32), .nd 3 (.flt .f32), .nd 4 (.flt .f32)]), (2, .nd 5 (.flt .f32))]) ?_ ?_ tb_ok ap_ok ?_
  · refine midN_in ?_ .nil _ ?_ ?_ ?_
    · exact (.cons rfl ⟨_, rfl, hx⟩ (.cons rfl (slOne hS) (.cons rfl ⟨_, rfl, qa⟩ (.cons rfl ⟨_, rfl, qb⟩ (.cons rfl ⟨_, rfl, qc⟩ (.cons rfl ⟨_, rfl, hrad⟩ (.cons rfl ⟨_, rfl⟩ (.cons rfl ⟨_, rfl⟩ .nil))))))))
    · exact .nil
    · exact sepOk_ro rfl
    · exact (.cons (rule_call (args := [.agg [.flt .f32 x, S], .int .i64 1048576]) (dlCons (dAgg (dlCons (dNd rfl ⟨_, rfl, hx⟩) (dlCons (dNd rfl (slOne hS)) dlNil))) (dlCons (dLit rfl) dlNil)) (dNd rfl ⟨_, rfl⟩) (fun H9 hk => kq1 H9 (hk.grew (Nat.le_refl _)))) .nil)
  · exact (envEq rfl (dAgg (dlCons (dNd rfl ⟨_, rfl, hx⟩) (dlCons (dNd rfl (slOne hS)) dlNil))) (envEq rfl (dAgg (dlCons (dNd rfl ⟨_, rfl, qa⟩) (dlCons (dNd rfl ⟨_, rfl, qb⟩) (dlCons (dNd rfl ⟨_, rfl, qc⟩) dlNil)))) (envEq rfl (dNd rfl ⟨_, rfl, hrad⟩) envNil)))
  refine all2 (by kernel_rfl) ?_ ?_
  ·
    intro vs ls H2 E2 st hE
    have f3 : q1 < 0 := of_decide_eq_true (bfact (x := decide (q1 < 0)) st.inn 0 (by kernel_rfl))
    exact res_ex (by kernel_rfl) (end_same st.inn hE (.inr rfl) (a := .bool true) (by kernel_rfl) (Nat.le_trans (Nat.le_refl _) st.kept.1) rfl)
  ·
    intro vs ls H4 E4 st hE
    have f5 : ¬ (q1 < 0) := of_decide_eq_false (bfact (x := decide (q1 < 0)) st.inn 0 (by kernel_rfl))
    have mxms : ms.length ≤ 1048576 := by omega
    obtain ⟨hL, mxL⟩ := withinV_ok hV hr mxms
    obtain ⟨p6, e7, r8, n9⟩ := ptr_of st.inn hE 3 0 (by kernel_rfl) (ds := [.flt .f32 x, S]) (by kernel_rfl)
    have op6 : H.next ≤ p6 := Nat.le_trans (Nat.le_refl _) (n9 (Nat.le_of_ble_eq_true rfl))
    obtain ⟨p10, e11, r12, n13⟩ := ptr_of st.inn hE 4 1 (by kernel_rfl) (ds := [.flt .f32 ya, .flt .f32 yb, .flt .f32 yc]) (by kernel_rfl)
    have op10 : H.next ≤ p10 := Nat.le_trans (Nat.le_refl _) (n13 (Nat.le_of_ble_eq_true rfl))
    have ne14 : Apart p6 p10 := ⟨ptr_ne st.inn hE 3 0 4 1 (by kernel_rfl) (by kernel_rfl) (cs := [.nd 0 (.flt .f32), .nd 1 .one]) (by kernel_rfl) (by decide) e7 e11⟩
    have b15 : E4 24 = .agg [.flt .f32 x, S] := env_of st.inn hE 24 (by kernel_rfl)
    have b16 : E4 26 = .agg [.flt .f32 ya, .flt .f32 yb, .flt .f32 yc] := env_of st.inn hE 26 (by kernel_rfl)
    have b17 : E4 28 = .flt .f32 rad := env_of st.inn hE 28 (by kernel_rfl)
    have b18 : E4 2 = .flt .f32 rad := env_of st.inn hE 2 (by kernel_rfl)
    have g19 : Grew H H4 := (st.kept.grew (Nat.le_of_ble_eq_true (by kernel_rfl)))
    have g20 : Grew H H4 := Grew.trans (Grew.refl _) g19
    clear st hE vs ls
    refine res_kid (free := false) (d := (some 25)) (f := 32) (args := [.tmp 24]) (by kernel_rfl) (R := fun z H' => Grew H4 H' ∧ ∃ S', z = .agg [.flt .f32 x, S'] ∧ SlW H' 9 ms S' ∧ FreshS H4.next S') ?_ ?_
    · show ACalls _ _ [E4 24] _ _
      rw [b15]
      exact w_toLandMap H4 x hx ms hr S (hS.grew g20) mxms
    rintro z H22 ⟨gS21, S21, rfl, sS21, fS21⟩
    refine ⟨gS21, ?_⟩
    have ne23 : ApartL (S21) p6 := fS21.apartL (H4.lt_of_get r8)
    have ne24 : ApartL (S21) p10 := fS21.apartL (H4.lt_of_get r12)
    have fr25 : FreshS H.next (S21) := fS21.mono g20.next
    have g26 : Grew H H22 := Grew.trans g20 gS21
    have r27 := gS21.at r8
    have r28 := gS21.at r12
    refine run_mn (φ := φ0) (pm := pmR 2 [(.call 22 [.agg [.nd 2 (.flt .f32), .nd 3 (.flt .f32), .nd 4 (.flt .f32)]], .agg [.nd 2 (.flt .f32), .nd 3 (.flt .f32), .nd 4 (.flt .f32)])] 0) 20 (nk := [(.atom 0, .flt .f32), (.atom 1, .one), (.atom 2, .flt .f32), (.atom 3, .flt .f32), (.atom 4, .flt .f32), (.atom 5, .flt .f32), (.atom 6, .int .i64), (.atom 7, .int .i64), (.atom 8, .one)]) (fs := []) (xs := [.flt .f32 x, S, .flt .f32 ya, .flt .f32 yb, .flt .f32 yc, .flt .f32 rad, .int .i64 c, .int .i64 q1, S21]) (ws := [⟨p6, 0, [.nd 0 (.flt .f32), .nd 1 .one], false⟩, ⟨p10, 0, [.nd 2 (.flt .f32), .nd 3 (.flt .f32), .nd 4 (.flt .f32)], false⟩]) (env := [(24, .agg [.nd 0 (.flt .f32), .nd 1 .one]), (26, .agg [.nd 2 (.flt .f32), .nd 3 (.flt .f32), .nd 4 (.flt .f32)]), (28, .nd 5 (.flt .f32)), (3, .ptr 0 0), (4, .ptr 1 0), (2, .nd 5 (.flt .f32)), (25, .agg [.nd 0 (.flt .f32), .nd 8 .one])]) ?_ ?_ tb_ok ap_ok ?_
    · refine midN_in ?_ .nil _ ?_ ?_ ?_
      · exact (.cons rfl ⟨_, rfl, hx⟩ (.cons rfl (slOne hS) (.cons rfl ⟨_, rfl, qa⟩ (.cons rfl ⟨_, rfl, qb⟩ (.cons rfl ⟨_, rfl, qc⟩ (.cons rfl ⟨_, rfl, hrad⟩ (.cons rfl ⟨_, rfl⟩ (.cons rfl ⟨_, rfl⟩ (.cons rfl sS21.one .nil)))))))))
      · exact (.cons (win_row r27 (dlCons (dNd rfl ⟨_, rfl, hx⟩) (dlCons (dNd rfl (slOne hS)) dlNil))) (.cons (win_row r28 (dlCons (dNd rfl ⟨_, rfl, qa⟩) (dlCons (dNd rfl ⟨_, rfl, qb⟩) (dlCons (dNd rfl ⟨_, rfl, qc⟩) dlNil)))) .nil))
      · exact sepOk_ro rfl
      · exact (.cons (rule_call (args := [.agg [.flt .f32 ya, .flt .f32 yb, .flt .f32 yc]]) (dlCons (dAgg (dlCons (dNd rfl ⟨_, rfl, qa⟩) (dlCons (dNd rfl ⟨_, rfl, qb⟩) (dlCons (dNd rfl ⟨_, rfl, qc⟩) dlNil)))) dlNil) (dAgg (dlCons (dNd rfl ⟨_, rfl, qa⟩) (dlCons (dNd rfl ⟨_, rfl, qb⟩) (dlCons (dNd rfl ⟨_, rfl, qc⟩) dlNil)))) (fun H9 hk => k_toVec ya yb yc qa qb qc H9)) .nil)
    · exact (envEq (put_ne rfl b15) (dAgg (dlCons (dNd rfl ⟨_, rfl, hx⟩) (dlCons (dNd rfl (slOne hS)) dlNil))) (envEq (put_ne rfl b16) (dAgg (dlCons (dNd rfl ⟨_, rfl, qa⟩) (dlCons (dNd rfl ⟨_, rfl, qb⟩) (dlCons (dNd rfl ⟨_, rfl, qc⟩) dlNil)))) (envEq (put_ne rfl b17) (dNd rfl ⟨_, rfl, hrad⟩) (envEq (put_ne rfl e7) (dPtr (l := p6) (o := 0) rfl) (envEq (put_ne rfl e11) (dPtr (l := p10) (o := 0) rfl) (envEq (put_ne rfl b18) (dNd rfl ⟨_, rfl, hrad⟩) (envEq put_same (dAgg (dlCons (dNd rfl ⟨_, rfl, hx⟩) (dlCons (dNd rfl sS21.one) dlNil))) envNil)))))))
    refine all1 (by kernel_rfl) ?_
    intro vs ls H29 E29 st hE
    have b30 : E29 25 = .agg [.flt .f32 x, S21] := env_of st.inn hE 25 (by kernel_rfl)
    have b31 : E29 27 = .agg [.flt .f32 ya, .flt .f32 yb, .flt .f32 yc] := env_of st.inn hE 27 (by kernel_rfl)
    have b32 : E29 28 = .flt .f32 rad := env_of st.inn hE 28 (by kernel_rfl)
    have b33 : E29 3 = .ptr p6 0 := env_of st.inn hE 3 (by kernel_rfl)
    have b34 : E29 4 = .ptr p10 0 := env_of st.inn hE 4 (by kernel_rfl)
    have b35 : E29 2 = .flt .f32 rad := env_of st.inn hE 2 (by kernel_rfl)
    have g36 : Grew H22 H29 := (st.kept.grew (Nat.le_of_ble_eq_true (by kernel_rfl)))
    have g37 : Grew H H29 := Grew.trans g26 g36
    have r38 := g36.at r27
    have r39 := g36.at r28
    have s40 := sS21.grew g36
    clear st hE vs ls
    refine res_kid (free := false) (d := (some 29)) (f := 46) (args := [.tmp 25, .tmp 27, .tmp 28]) (by kernel_rfl) (R := fun z H' => Grew H29 H' ∧ ∃ S', z = .tuple [S', .int .i64 c] ∧ SlW H' 9 L S' ∧ FreshS H29.next S') ?_ ?_
    · show ACalls _ _ [E29 25, E29 27, E29 28] _ _
      rw [b30, b31, b32]
      exact (by have h9 := k_spec_MarksWithin H29 x hx ms hr (S21) s40.toL mxms ya yb yc qa qb qc rad hrad; rw [hV] at h9; exact h9)
    rintro z H41 ⟨gH41, S42, rfl, sS42, fS42⟩
    refine ⟨gH41, ?_⟩
    have ne43 : ApartL (S42) p6 := fS42.apartL (H29.lt_of_get r38)
    have ne44 : ApartL (S42) p10 := fS42.apartL (H29.lt_of_get r39)
    have ne45 : ApartS (S42) (S21) := fS42.apartS s40.lt
    have fr46 : FreshS H.next (S42) := fS42.mono g37.next
    have g47 : Grew H H41 := Grew.trans g37 gH41
    have r48 := gH41.at r38
    have r49 := gH41.at r39
    have s50 := s40.grew gH41
    refine run_mn (φ := φ0) (pm := pmR 2 [] 0) 20 (nk := [(.atom 0, .flt .f32), (.atom 1, .one), (.atom 2, .flt .f32), (.atom 3, .flt .f32), (.atom 4, .flt .f32), (.atom 5, .flt .f32), (.atom 6, .int .i64), (.atom 7, .int .i64), (.atom 8, .one), (.atom 9, .one)]) (fs := []) (xs := [.flt .f32 x, S, .flt .f32 ya, .flt .f32 yb, .flt .f32 yc, .flt .f32 rad, .int .i64 c, .int .i64 q1, S21, S42]) (ws := [⟨p6, 0, [.nd 0 (.flt .f32), .nd 1 .one], false⟩, ⟨p10, 0, [.nd 2 (.flt .f32), .nd 3 (.flt .f32), .nd 4 (.flt .f32)], false⟩]) (env := [(25, .agg [.nd 0 (.flt .f32), .nd 8 .one]), (27, .agg [.nd 2 (.flt .f32), .nd 3 (.flt .f32), .nd 4 (.flt .f32)]), (28, .nd 5 (.flt .f32)), (3, .ptr 0 0), (4, .ptr 1 0), (2, .nd 5 (.flt .f32)), (29, .tup [.nd 9 .one, .nd 6 (.int .i64)])]) ?_ ?_ tb_ok ap_ok ?_
    · refine midN_in ?_ .nil _ ?_ ?_ ?_
      · exact (.cons rfl ⟨_, rfl, hx⟩ (.cons rfl (slOne hS) (.cons rfl ⟨_, rfl, qa⟩ (.cons rfl ⟨_, rfl, qb⟩ (.cons rfl ⟨_, rfl, qc⟩ (.cons rfl ⟨_, rfl, hrad⟩ (.cons rfl ⟨_, rfl⟩ (.cons rfl ⟨_, rfl⟩ (.cons rfl sS21.one (.cons rfl sS42.one .nil))))))))))
      · exact (.cons (win_row r48 (dlCons (dNd rfl ⟨_, rfl, hx⟩) (dlCons (dNd rfl (slOne hS)) dlNil))) (.cons (win_row r49 (dlCons (dNd rfl ⟨_, rfl, qa⟩) (dlCons (dNd rfl ⟨_, rfl, qb⟩) (dlCons (dNd rfl ⟨_, rfl, qc⟩) dlNil)))) .nil))
      · exact sepOk_ro rfl
      · exact .nil
    · exact (envEq (put_ne rfl b30) (dAgg (dlCons (dNd rfl ⟨_, rfl, hx⟩) (dlCons (dNd rfl sS21.one) dlNil))) (envEq (put_ne rfl b31) (dAgg (dlCons (dNd rfl ⟨_, rfl, qa⟩) (dlCons (dNd rfl ⟨_, rfl, qb⟩) (dlCons (dNd rfl ⟨_, rfl, qc⟩) dlNil)))) (envEq (put_ne rfl b32) (dNd rfl ⟨_, rfl, hrad⟩) (envEq (put_ne rfl b33) (dPtr (l := p6) (o := 0) rfl) (envEq (put_ne rfl b34) (dPtr (l := p10) (o := 0) rfl) (envEq (put_ne rfl b35) (dNd rfl ⟨_, rfl, hrad⟩) (envEq put_same (dTup' (dlCons (dNd rfl sS42.one) (dlCons (dNd rfl ⟨_, rfl⟩) dlNil))) envNil)))))))
    refine all1 (by kernel_rfl) ?_
    intro vs ls H51 E51 st hE
    have b52 : E51 32 = .agg [.flt .f32 x, S] := env_of st.inn hE 32 (by kernel_rfl)
    have b53 : E51 4 = .ptr p10 0 := env_of st.inn hE 4 (by kernel_rfl)
    have b54 : E51 2 = .flt .f32 rad := env_of st.inn hE 2 (by kernel_rfl)
    have b55 : E51 8 = S42 := env_of st.inn hE 8 (by kernel_rfl)
    have b56 : E51 9 = .int .i64 c := env_of st.inn hE 9 (by kernel_rfl)
    have b57 : E51 3 = .ptr p6 0 := env_of st.inn hE 3 (by kernel_rfl)
    have g58 : Grew H41 H51 := (st.kept.grew (Nat.le_of_ble_eq_true (by kernel_rfl)))
    have g59 : Grew H H51 := Grew.trans g47 g58
    have r60 := g58.at r48
    have r61 := g58.at r49
    have s62 := s50.grew g58
    have s63 := sS42.grew g58
    clear st hE vs ls
    refine res_call (d := (some 33)) (f := 32) (args := [.tmp 32]) (by kernel_rfl) (R := fun z H' => Grew H51 H' ∧ ∃ S', z = .agg [.flt .f32 x, S'] ∧ SlW H' 9 ms S' ∧ FreshS H51.next S') ?_ ?_
    · show ACalls _ _ [E51 32] _ _
      rw [b52]
      exact w_toLandMap H51 x hx ms hr S (hS.grew g59) mxms
    rintro z H65 ⟨gS64, S64, rfl, sS64, fS64⟩
    have ne66 : ApartL (S64) p6 := fS64.apartL (H51.lt_of_get r60)
    have ne67 : ApartL (S64) p10 := fS64.apartL (H51.lt_of_get r61)
    have ne68 : ApartS (S64) (S21) := fS64.apartS s62.lt
    have ne69 : ApartS (S64) (S42) := fS64.apartS s63.lt
    have fr70 : FreshS H.next (S64) := fS64.mono g59.next
    have g71 : Grew H H65 := Grew.trans g59 gS64
    have r72 := gS64.at r60
    have r73 := gS64.at r61
    have s74 := s62.grew gS64
    have s75 := s63.grew gS64
    refine run_mn (φ := φ0) (pm := pmR 2 [(.call 22 [.agg [.nd 2 (.flt .f32), .nd 3 (.flt .f32), .nd 4 (.flt .f32)]], .agg [.nd 2 (.flt .f32), .nd 3 (.flt .f32), .nd 4 (.flt .f32)])] 0) 20 (nk := [(.atom 0, .flt .f32), (.atom 1, .one), (.atom 2, .flt .f32), (.atom 3, .flt .f32), (.atom 4, .flt .f32), (.atom 5, .flt .f32), (.atom 6, .int .i64), (.atom 7, .int .i64), (.atom 8, .one), (.atom 9, .one), (.atom 10, .one)]) (fs := []) (xs := [.flt .f32 x, S, .flt .f32 ya, .flt .f32 yb, .flt .f32 yc, .flt .f32 rad, .int .i64 c, .int .i64 q1, S21, S42, S64]) (ws := [⟨p6, 0, [.nd 0 (.flt .f32), .nd 1 .one], false⟩, ⟨p10, 0, [.nd 2 (.flt .f32), .nd 3 (.flt .f32), .nd 4 (.flt .f32)], false⟩]) (env := [(32, .agg [.nd 0 (.flt .f32), .nd 1 .one]), (4, .ptr 1 0), (2, .nd 5 (.flt .f32)), (8, .nd 9 .one), (9, .nd 6 (.int .i64)), (3, .ptr 0 0), (33, .agg [.nd 0 (.flt .f32), .nd 10 .one])]) ?_ ?_ tb_ok ap_ok ?_
    · refine midN_in ?_ .nil _ ?_ ?_ ?_
      · exact (.cons rfl ⟨_, rfl, hx⟩ (.cons rfl (slOne hS) (.cons rfl ⟨_, rfl, qa⟩ (.cons rfl ⟨_, rfl, qb⟩ (.cons rfl ⟨_, rfl, qc⟩ (.cons rfl ⟨_, rfl, hrad⟩ (.cons rfl ⟨_, rfl⟩ (.cons rfl ⟨_, rfl⟩ (.cons rfl sS21.one (.cons rfl sS42.one (.cons rfl sS64.one .nil)))))))))))
      · exact (.cons (win_row r72 (dlCons (dNd rfl ⟨_, rfl, hx⟩) (dlCons (dNd rfl (slOne hS)) dlNil))) (.cons (win_row r73 (dlCons (dNd rfl ⟨_, rfl, qa⟩) (dlCons (dNd rfl ⟨_, rfl, qb⟩) (dlCons (dNd rfl ⟨_, rfl, qc⟩) dlNil)))) .nil))
      · exact sepOk_ro rfl
      · exact (.cons (rule_call (args := [.agg [.flt .f32 ya, .flt .f32 yb, .flt .f32 yc]]) (dlCons (dAgg (dlCons (dNd rfl ⟨_, rfl, qa⟩) (dlCons (dNd rfl ⟨_, rfl, qb⟩) (dlCons (dNd rfl ⟨_, rfl, qc⟩) dlNil)))) dlNil) (dAgg (dlCons (dNd rfl ⟨_, rfl, qa⟩) (dlCons (dNd rfl ⟨_, rfl, qb⟩) (dlCons (dNd rfl ⟨_, rfl, qc⟩) dlNil)))) (fun H9 hk => k_toVec ya yb yc qa qb qc H9)) .nil)
    · exact (envEq (put_ne rfl b52) (dAgg (dlCons (dNd rfl ⟨_, rfl, hx⟩) (dlCons (dNd rfl (slOne hS)) dlNil))) (envEq (put_ne rfl b53) (dPtr (l := p10) (o := 0) rfl) (envEq (put_ne rfl b54) (dNd rfl ⟨_, rfl, hrad⟩) (envEq (put_ne rfl b55) (dNd rfl sS42.one) (envEq (put_ne rfl b56) (dNd rfl ⟨_, rfl⟩) (envEq (put_ne rfl b57) (dPtr (l := p6) (o := 0) rfl) (envEq put_same (dAgg (dlCons (dNd rfl ⟨_, rfl, hx⟩) (dlCons (dNd rfl sS64.one) dlNil))) envNil)))))))
    refine all1 (by kernel_rfl) ?_
    intro vs ls H76 E76 st hE
    obtain ⟨p77, e78, r79, n80⟩ := ptr_of st.inn hE 10 2 (by kernel_rfl) (ds := [.flt .f32 x, S64]) (by kernel_rfl)
    have op77 : H.next ≤ p77 := Nat.le_trans g71.next (n80 (Nat.le_of_ble_eq_true rfl))
    have ne81 : Apart p77 p6 := ⟨Nat.ne_of_gt (Nat.lt_of_lt_of_le (H65.lt_of_get r72) (n80 (Nat.le_of_ble_eq_true rfl)))⟩
    have ne82 : Apart p77 p10 := ⟨Nat.ne_of_gt (Nat.lt_of_lt_of_le (H65.lt_of_get r73) (n80 (Nat.le_of_ble_eq_true rfl)))⟩
    have ne83 : ApartL (S21) p77 := s74.apart_new (n80 (Nat.le_of_ble_eq_true rfl))
    have ne84 : ApartL (S42) p77 := s75.apart_new (n80 (Nat.le_of_ble_eq_true rfl))
    have ne85 : ApartL (S64) p77 := sS64.apart_new (n80 (Nat.le_of_ble_eq_true rfl))
    have b86 : E76 35 = .agg [.flt .f32 x, S64] := env_of st.inn hE 35 (by kernel_rfl)
    have b87 : E76 37 = .agg [.flt .f32 ya, .flt .f32 yb, .flt .f32 yc] := env_of st.inn hE 37 (by kernel_rfl)
    have b88 : E76 38 = .flt .f32 rad := env_of st.inn hE 38 (by kernel_rfl)
    have b89 : E76 8 = S42 := env_of st.inn hE 8 (by kernel_rfl)
    have b90 : E76 9 = .int .i64 c := env_of st.inn hE 9 (by kernel_rfl)
    have b91 : E76 3 = .ptr p6 0 := env_of st.inn hE 3 (by kernel_rfl)
    have b92 : E76 4 = .ptr p10 0 := env_of st.inn hE 4 (by kernel_rfl)
    have b93 : E76 2 = .flt .f32 rad := env_of st.inn hE 2 (by kernel_rfl)
    have g94 : Grew H65 H76 := (st.kept.grew (Nat.le_of_ble_eq_true (by kernel_rfl)))
    have g95 : Grew H H76 := Grew.trans g71 g94
    have r96 := g94.at r72
    have r97 := g94.at r73
    have s98 := s74.grew g94
    have s99 := s75.grew g94
    have s100 := sS64.grew g94
    clear st hE vs ls
    refine res_kid (free := false) (d := (some 39)) (f := 47) (args := [.tmp 35, .tmp 37, .tmp 38]) (by kernel_rfl) (R := fun z H' => Grew H76 H' ∧ ∃ S', z = .tuple [S', .int .i64 c] ∧ SlW H' 9 L S' ∧ FreshS H76.next S') ?_ ?_
    · show ACalls _ _ [E76 35, E76 37, E76 38] _ _
      rw [b86, b87, b88]
      exact (by have h9 := k_impl_MarksWithin H76 x hx ms hr (S64) s100.toL mxms ya yb yc qa qb qc rad hrad; rw [hV] at h9; exact h9)
    rintro z H101 ⟨gH101, S102, rfl, sS102, fS102⟩
    refine ⟨gH101, ?_⟩
    have ne103 : ApartL (S102) p6 := fS102.apartL (H76.lt_of_get r96)
    have ne104 : ApartL (S102) p10 := fS102.apartL (H76.lt_of_get r97)
    have ne105 : ApartL (S102) p77 := fS102.apartL (H76.lt_of_get r79)
    have ne106 : ApartS (S102) (S21) := fS102.apartS s98.lt
    have ne107 : ApartS (S102) (S42) := fS102.apartS s99.lt
    have ne108 : ApartS (S102) (S64) := fS102.apartS s100.lt
    have fr109 : FreshS H.next (S102) := fS102.mono g95.next
    have g110 : Grew H H101 := Grew.trans g95 gH101
    have r111 := gH101.at r96
    have r112 := gH101.at r97
    have r113 := gH101.at r79
    have s114 := s98.grew gH101
    have s115 := s99.grew gH101
    have s116 := s100.grew gH101
    refine run_mn (φ := φ0) (pm := pmR 3 [(.call 48 [.nd 11 .one, .nd 9 .one], .lit (.bool true))] 0) 20 (nk := [(.atom 0, .flt .f32), (.atom 1, .one), (.atom 2, .flt .f32), (.atom 3, .flt .f32), (.atom 4, .flt .f32), (.atom 5, .flt .f32), (.atom 6, .int .i64), (.atom 7, .int .i64), (.atom 8, .one), (.atom 9, .one), (.atom 10, .one), (.atom 11, .one)]) (fs := []) (xs := [.flt .f32 x, S, .flt .f32 ya, .flt .f32 yb, .flt .f32 yc, .flt .f32 rad, .int .i64 c, .int .i64 q1, S21, S42, S64, S102]) (ws := [⟨p6, 0, [.nd 0 (.flt .f32), .nd 1 .one], false⟩, ⟨p10, 0, [.nd 2 (.flt .f32), .nd 3 (.flt .f32), .nd 4 (.flt .f32)], false⟩, ⟨p77, 0, [.nd 0 (.flt .f32), .nd 10 .one], false⟩]) (env := [(35, .agg [.nd 0 (.flt .f32), .nd 10 .one]), (37, .agg [.nd 2 (.flt .f32), .nd 3 (.flt .f32), .nd 4 (.flt .f32)]), (38, .nd 5 (.flt .f32)), (8, .nd 9 .one), (9, .nd 6 (.int .i64)), (10, .ptr 2 0), (3, .ptr 0 0), (4, .ptr 1 0), (2, .nd 5 (.flt .f32)), (39, .tup [.nd 11 .one, .nd 6 (.int .i64)])]) ?_ ?_ tb_ok ap_ok ?_
    · refine midN_in ?_ .nil _ ?_ ?_ ?_
      · exact (.cons rfl ⟨_, rfl, hx⟩ (.cons rfl (slOne hS) (.cons rfl ⟨_, rfl, qa⟩ (.cons rfl ⟨_, rfl, qb⟩ (.cons rfl ⟨_, rfl, qc⟩ (.cons rfl ⟨_, rfl, hrad⟩ (.cons rfl ⟨_, rfl⟩ (.cons rfl ⟨_, rfl⟩ (.cons rfl sS21.one (.cons rfl sS42.one (.cons rfl sS64.one (.cons rfl sS102.one .nil))))))))))))
      · exact (.cons (win_row r111 (dlCons (dNd rfl ⟨_, rfl, hx⟩) (dlCons (dNd rfl (slOne hS)) dlNil))) (.cons (win_row r112 (dlCons (dNd rfl ⟨_, rfl, qa⟩) (dlCons (dNd rfl ⟨_, rfl, qb⟩) (dlCons (dNd rfl ⟨_, rfl, qc⟩) dlNil)))) (.cons (win_row r113 (dlCons (dNd rfl ⟨_, rfl, hx⟩) (dlCons (dNd rfl sS64.one) dlNil))) .nil)))
      · exact sepOk_ro rfl
      · exact (.cons (rule_call (args := [S102, S42]) (dlCons (dNd rfl sS102.one) (dlCons (dNd rfl sS42.one) dlNil)) (dLit rfl) (fun H9 hk => k_eqMarkS H9 L hL _ _ ((sS102.grew (hk.grew (Nat.le_refl _)))).toL ((s115.grew (hk.grew (Nat.le_refl _)))).toL (mx40 mxL))) .nil)
    · exact (envEq (put_ne rfl b86) (dAgg (dlCons (dNd rfl ⟨_, rfl, hx⟩) (dlCons (dNd rfl sS64.one) dlNil))) (envEq (put_ne rfl b87) (dAgg (dlCons (dNd rfl ⟨_, rfl, qa⟩) (dlCons (dNd rfl ⟨_, rfl, qb⟩) (dlCons (dNd rfl ⟨_, rfl, qc⟩) dlNil)))) (envEq (put_ne rfl b88) (dNd rfl ⟨_, rfl, hrad⟩) (envEq (put_ne rfl b89) (dNd rfl sS42.one) (envEq (put_ne rfl b90) (dNd rfl ⟨_, rfl⟩) (envEq (put_ne rfl e78) (dPtr (l := p77) (o := 0) rfl) (envEq (put_ne rfl b91) (dPtr (l := p6) (o := 0) rfl) (envEq (put_ne rfl b92) (dPtr (l := p10) (o := 0) rfl) (envEq (put_ne rfl b93) (dNd rfl ⟨_, rfl, hrad⟩) (envEq put_same (dTup' (dlCons (dNd rfl sS102.one) (dlCons (dNd rfl ⟨_, rfl⟩) dlNil))) envNil))))))))))
    refine all1 (by kernel_rfl) ?_
    intro vs ls H117 E117 st hE
    have b118 : E117 52 = .agg [.flt .f32 x, S] := env_of st.inn hE 52 (by kernel_rfl)
    have b119 : E117 51 = .agg [.flt .f32 x, S64] := env_of st.inn hE 51 (by kernel_rfl)
    have b120 : E117 10 = .ptr p77 0 := env_of st.inn hE 10 (by kernel_rfl)
    have b121 : E117 11 = S102 := env_of st.inn hE 11 (by kernel_rfl)
    have b122 : E117 8 = S42 := env_of st.inn hE 8 (by kernel_rfl)
    have b123 : E117 12 = .int .i64 c := env_of st.inn hE 12 (by kernel_rfl)
    have b124 : E117 9 = .int .i64 c := env_of st.inn hE 9 (by kernel_rfl)
    have b125 : E117 3 = .ptr p6 0 := env_of st.inn hE 3 (by kernel_rfl)
    have b126 : E117 4 = .ptr p10 0 := env_of st.inn hE 4 (by kernel_rfl)
    have b127 : E117 2 = .flt .f32 rad := env_of st.inn hE 2 (by kernel_rfl)
    have g128 : Grew H101 H117 := (st.kept.grew (Nat.le_of_ble_eq_true (by kernel_rfl)))
    have g129 : Grew H H117 := Grew.trans g110 g128
    have r130 := g128.at r111
    have r131 := g128.at r112
    have r132 := g128.at r113
    have s133 := s114.grew g128
    have s134 := s115.grew g128
    have s135 := s116.grew g128
    have s136 := sS102.grew g128
    clear st hE vs ls
    refine res_kid (free := false) (d := (some 53)) (f := 32) (args := [.tmp 52]) (by kernel_rfl) (R := fun z H' => Grew H117 H' ∧ ∃ S', z = .agg [.flt .f32 x, S'] ∧ SlW H' 9 ms S' ∧ FreshS H117.next S') ?_ ?_
    · show ACalls _ _ [E117 52] _ _
      rw [b118]
      exact w_toLandMap H117 x hx ms hr S (hS.grew g129) mxms
    rintro z H138 ⟨gS137, S137, rfl, sS137, fS137⟩
    refine ⟨gS137, ?_⟩
    have ne139 : ApartL (S137) p6 := fS137.apartL (H117.lt_of_get r130)
    have ne140 : ApartL (S137) p10 := fS137.apartL (H117.lt_of_get r131)
    have ne141 : ApartL (S137) p77 := fS137.apartL (H117.lt_of_get r132)
    have ne142 : ApartS (S137) (S21) := fS137.apartS s133.lt
    have ne143 : ApartS (S137) (S42) := fS137.apartS s134.lt
    have ne144 : ApartS (S137) (S64) := fS137.apartS s135.lt
    have ne145 : ApartS (S137) (S102) := fS137.apartS s136.lt
    have fr146 : FreshS H.next (S137) := fS137.mono g129.next
    have g147 : Grew H H138 := Grew.trans g129 gS137
    have r148 := gS137.at r130
    have r149 := gS137.at r131
    have r150 := gS137.at r132
    have s151 := s133.grew gS137
    have s152 := s134.grew gS137
    have s153 := s135.grew gS137
    have s154 := s136.grew gS137
    refine run_mn (φ := φ0) (pm := pmR 3 [(.call 27 [.agg [.nd 0 (.flt .f32), .nd 10 .one], .agg [.nd 0 (.flt .f32), .nd 12 .one]], .lit (.bool true))] 0) 20 (nk := [(.atom 0, .flt .f32), (.atom 1, .one), (.atom 2, .flt .f32), (.atom 3, .flt .f32), (.atom 4, .flt .f32), (.atom 5, .flt .f32), (.atom 6, .int .i64), (.atom 7, .int .i64), (.atom 8, .one), (.atom 9, .one), (.atom 10, .one), (.atom 11, .one), (.atom 12, .one)]) (fs := []) (xs := [.flt .f32 x, S, .flt .f32 ya, .flt .f32 yb, .flt .f32 yc, .flt .f32 rad, .int .i64 c, .int .i64 q1, S21, S42, S64, S102, S137]) (ws := [⟨p6, 0, [.nd 0 (.flt .f32), .nd 1 .one], false⟩, ⟨p10, 0, [.nd 2 (.flt .f32), .nd 3 (.flt .f32), .nd 4 (.flt .f32)], false⟩, ⟨p77, 0, [.nd 0 (.flt .f32), .nd 10 .one], false⟩]) (env := [(52, .agg [.nd 0 (.flt .f32), .nd 1 .one]), (51, .agg [.nd 0 (.flt .f32), .nd 10 .one]), (10, .ptr 2 0), (11, .nd 11 .one), (8, .nd 9 .one), (12, .nd 6 (.int .i64)), (9, .nd 6 (.int .i64)), (3, .ptr 0 0), (4, .ptr 1 0), (2, .nd 5 (.flt .f32)), (53, .agg [.nd 0 (.flt .f32), .nd 12 .one])]) ?_ ?_ tb_ok ap_ok ?_
    · refine midN_in ?_ .nil _ ?_ ?_ ?_
      · exact (.cons rfl ⟨_, rfl, hx⟩ (.cons rfl (slOne hS) (.cons rfl ⟨_, rfl, qa⟩ (.cons rfl ⟨_, rfl, qb⟩ (.cons rfl ⟨_, rfl, qc⟩ (.cons rfl ⟨_, rfl, hrad⟩ (.cons rfl ⟨_, rfl⟩ (.cons rfl ⟨_, rfl⟩ (.cons rfl sS21.one (.cons rfl sS42.one (.cons rfl sS64.one (.cons rfl sS102.one (.cons rfl sS137.one .nil)))))))))))))
      · exact (.cons (win_row r148 (dlCons (dNd rfl ⟨_, rfl, hx⟩) (dlCons (dNd rfl (slOne hS)) dlNil))) (.cons (win_row r149 (dlCons (dNd rfl ⟨_, rfl, qa⟩) (dlCons (dNd rfl ⟨_, rfl, qb⟩) (dlCons (dNd rfl ⟨_, rfl, qc⟩) dlNil)))) (.cons (win_row r150 (dlCons (dNd rfl ⟨_, rfl, hx⟩) (dlCons (dNd rfl sS64.one) dlNil))) .nil)))
      · exact sepOk_ro rfl
      · exact (.cons (rule_call (args := [.agg [.flt .f32 x, S64], .agg [.flt .f32 x, S137]]) (dlCons (dAgg (dlCons (dNd rfl ⟨_, rfl, hx⟩) (dlCons (dNd rfl sS64.one) dlNil))) (dlCons (dAgg (dlCons (dNd rfl ⟨_, rfl, hx⟩) (dlCons (dNd rfl sS137.one) dlNil))) dlNil)) (dLit rfl) (fun H9 hk => k_eqLandMap H9 x hx ms hr _ _ ((s153.grew (hk.grew (Nat.le_refl _)))).toL ((sS137.grew (hk.grew (Nat.le_refl _)))).toL (mx40 mxms))) .nil)
    · exact (envEq (put_ne rfl b118) (dAgg (dlCons (dNd rfl ⟨_, rfl, hx⟩) (dlCons (dNd rfl (slOne hS)) dlNil))) (envEq (put_ne rfl b119) (dAgg (dlCons (dNd rfl ⟨_, rfl, hx⟩) (dlCons (dNd rfl sS64.one) dlNil))) (envEq (put_ne rfl b120) (dPtr (l := p77) (o := 0) rfl) (envEq (put_ne rfl b121) (dNd rfl sS102.one) (envEq (put_ne rfl b122) (dNd rfl sS42.one) (envEq (put_ne rfl b123) (dNd rfl ⟨_, rfl⟩) (envEq (put_ne rfl b124) (dNd rfl ⟨_, rfl⟩) (envEq (put_ne rfl b125) (dPtr (l := p6) (o := 0) rfl) (envEq (put_ne rfl b126) (dPtr (l := p10) (o := 0) rfl) (envEq (put_ne rfl b127) (dNd rfl ⟨_, rfl, hrad⟩) (envEq put_same (dAgg (dlCons (dNd rfl ⟨_, rfl, hx⟩) (dlCons (dNd rfl sS137.one) dlNil))) envNil)))))))))))
    refine all1 (by kernel_rfl) ?_
    intro vs ls H155 E155 st hE
    have b156 : E155 56 = .agg [.flt .f32 x, S64] := env_of st.inn hE 56 (by kernel_rfl)
    have b157 : E155 57 = .int .i64 1 := env_of st.inn hE 57 (by kernel_rfl)
    have b158 : E155 13 = .int .i64 1 := env_of st.inn hE 13 (by kernel_rfl)
    have b159 : E155 11 = S102 := env_of st.inn hE 11 (by kernel_rfl)
    have b160 : E155 8 = S42 := env_of st.inn hE 8 (by kernel_rfl)
    have b161 : E155 12 = .int .i64 c := env_of st.inn hE 12 (by kernel_rfl)
    have b162 : E155 9 = .int .i64 c := env_of st.inn hE 9 (by kernel_rfl)
    have b163 : E155 3 = .ptr p6 0 := env_of st.inn hE 3 (by kernel_rfl)
    have b164 : E155 4 = .ptr p10 0 := env_of st.inn hE 4 (by kernel_rfl)
    have b165 : E155 2 = .flt .f32 rad := env_of st.inn hE 2 (by kernel_rfl)
    have g166 : Grew H138 H155 := (st.kept.grew (Nat.le_of_ble_eq_true (by kernel_rfl)))
    have g167 : Grew H H155 := Grew.trans g147 g166
    have r168 := g166.at r148
    have r169 := g166.at r149
    have r170 := g166.at r150
    have s171 := s151.grew g166
    have s172 := s152.grew g166
    have s173 := s153.grew g166
    have s174 := s154.grew g166
    have s175 := sS137.grew g166
    clear st hE vs ls
    refine res_call (d := (some 58)) (f := 28) (args := [.tmp 56, .tmp 57]) (by kernel_rfl) (R := fun z H' => z = .int .i64 (1 + 9 * (ms.length : Int)) ∧ OnlyS S64 H155 H' ∧ SlW H' 9 (mksMark 1 ms.length) S64) ?_ ?_
    · show ACalls _ _ [E155 56, E155 57] _ _
      rw [b156, b157]
      exact w_markLandMap H155 x hx ms hr S64 s173 1 (by decide) (by decide) mxms
    rintro z H176 ⟨rfl, oH176, nH176⟩
    have g177 : Grew H H176 := OnlyS.own g167 fr70 oH176
    have r178 := oH176.at r168 (by assumption)
    have r179 := oH176.at r169 (by assumption)
    have s180 := s171.only oH176 (by first | assumption | exact ApartS.symm (by assumption))
    have s181 := s172.only oH176 (by first | assumption | exact ApartS.symm (by assumption))
    have s182 := s174.only oH176 (by first | assumption | exact ApartS.symm (by assumption))
    have s183 := s175.only oH176 (by first | assumption | exact ApartS.symm (by assumption))
    refine run_mn (φ := φ0) (pm := pmR 2 [(.call 48 [.nd 11 .one, .nd 9 .one], .lit (.bool true))] 0) 20 (nk := [(.atom 0, .flt .f32), (.atom 1, .one), (.atom 2, .flt .f32), (.atom 3, .flt .f32), (.atom 4, .flt .f32), (.atom 5, .flt .f32), (.atom 6, .int .i64), (.atom 7, .int .i64), (.atom 8, .one), (.atom 9, .one), (.atom 10, .one), (.atom 11, .one), (.atom 12, .one), (.atom 13, .int .i64)]) (fs := []) (xs := [.flt .f32 x, S, .flt .f32 ya, .flt .f32 yb, .flt .f32 yc, .flt .f32 rad, .int .i64 c, .int .i64 q1, S21, S42, S64, S102, S137, .int .i64 (1 + 9 * (ms.length : Int))]) (ws := [⟨p6, 0, [.nd 0 (.flt .f32), .nd 1 .one], false⟩, ⟨p10, 0, [.nd 2 (.flt .f32), .nd 3 (.flt .f32), .nd 4 (.flt .f32)], false⟩]) (env := [(56, .agg [.nd 0 (.flt .f32), .nd 10 .one]), (57, .lit (.int .i64 1)), (13, .lit (.int .i64 1)), (11, .nd 11 .one), (8, .nd 9 .one), (12, .nd 6 (.int .i64)), (9, .nd 6 (.int .i64)), (3, .ptr 0 0), (4, .ptr 1 0), (2, .nd 5 (.flt .f32)), (58, .nd 13 (.int .i64))]) ?_ ?_ tb_ok ap_ok ?_
    · refine midN_in ?_ .nil _ ?_ ?_ ?_
      · exact (.cons rfl ⟨_, rfl, hx⟩ (.cons rfl (slOne hS) (.cons rfl ⟨_, rfl, qa⟩ (.cons rfl ⟨_, rfl, qb⟩ (.cons rfl ⟨_, rfl, qc⟩ (.cons rfl ⟨_, rfl, hrad⟩ (.cons rfl ⟨_, rfl⟩ (.cons rfl ⟨_, rfl⟩ (.cons rfl sS21.one (.cons rfl sS42.one (.cons rfl sS64.one (.cons rfl sS102.one (.cons rfl sS137.one (.cons rfl ⟨_, rfl⟩ .nil))))))))))))))
      · exact (.cons (win_row r178 (dlCons (dNd rfl ⟨_, rfl, hx⟩) (dlCons (dNd rfl (slOne hS)) dlNil))) (.cons (win_row r179 (dlCons (dNd rfl ⟨_, rfl, qa⟩) (dlCons (dNd rfl ⟨_, rfl, qb⟩) (dlCons (dNd rfl ⟨_, rfl, qc⟩) dlNil)))) .nil))
      · exact sepOk_ro rfl
      · exact (.cons (rule_call (args := [S102, S42]) (dlCons (dNd rfl sS102.one) (dlCons (dNd rfl sS42.one) dlNil)) (dLit rfl) (fun H9 hk => k_eqMarkS H9 L hL _ _ ((s182.grew (hk.grew (Nat.le_refl _)))).toL ((s181.grew (hk.grew (Nat.le_refl _)))).toL (mx40 mxL))) .nil)
    · exact (envEq (put_ne rfl b156) (dAgg (dlCons (dNd rfl ⟨_, rfl, hx⟩) (dlCons (dNd rfl sS64.one) dlNil))) (envEq (put_ne rfl b157) (dLit rfl) (envEq (put_ne rfl b158) (dLit rfl) (envEq (put_ne rfl b159) (dNd rfl sS102.one) (envEq (put_ne rfl b160) (dNd rfl sS42.one) (envEq (put_ne rfl b161) (dNd rfl ⟨_, rfl⟩) (envEq (put_ne rfl b162) (dNd rfl ⟨_, rfl⟩) (envEq (put_ne rfl b163) (dPtr (l := p6) (o := 0) rfl) (envEq (put_ne rfl b164) (dPtr (l := p10) (o := 0) rfl) (envEq (put_ne rfl b165) (dNd rfl ⟨_, rfl, hrad⟩) (envEq put_same (dNd rfl ⟨_, rfl⟩) envNil)))))))))))
    refine all2 (by kernel_rfl) ?_ ?_
    ·
      intro vs ls H184 E184 st hE
      have f185 : (1 + 9 * (ms.length : Int)) < 0 := of_decide_eq_true (bfact (x := decide ((1 + 9 * (ms.length : Int)) < 0)) st.inn 0 (by kernel_rfl))
      exact absurd f185 (by omega)
    ·
      intro vs ls H186 E186 st hE
      have f187 : ¬ ((1 + 9 * (ms.length : Int)) < 0) := of_decide_eq_false (bfact (x := decide ((1 + 9 * (ms.length : Int)) < 0)) st.inn 0 (by kernel_rfl))
      have b188 : E186 72 = S102 := env_of st.inn hE 72 (by kernel_rfl)
      have b189 : E186 73 = .int .i64 1 := env_of st.inn hE 73 (by kernel_rfl)
      have b190 : E186 11 = S102 := env_of st.inn hE 11 (by kernel_rfl)
      have b191 : E186 14 = .int .i64 1 := env_of st.inn hE 14 (by kernel_rfl)
      have b192 : E186 3 = .ptr p6 0 := env_of st.inn hE 3 (by kernel_rfl)
      have b193 : E186 4 = .ptr p10 0 := env_of st.inn hE 4 (by kernel_rfl)
      have b194 : E186 2 = .flt .f32 rad := env_of st.inn hE 2 (by kernel_rfl)
      have b195 : E186 8 = S42 := env_of st.inn hE 8 (by kernel_rfl)
      have b196 : E186 9 = .int .i64 c := env_of st.inn hE 9 (by kernel_rfl)
      have g197 : Grew H176 H186 := (st.kept.grew (Nat.le_of_ble_eq_true (by kernel_rfl)))
      have g198 : Grew H H186 := Grew.trans g177 g197
      have r199 := g197.at r178
      have r200 := g197.at r179
      have s201 := s180.grew g197
      have s202 := s181.grew g197
      have s203 := nH176.grew g197
      have s204 := s182.grew g197
      have s205 := s183.grew g197
      clear st hE vs ls
      refine res_call (d := (some 74)) (f := 49) (args := [.tmp 72, .tmp 73]) (by kernel_rfl) (R := fun z H' => z = .int .i64 (1 + 9 * (L.length : Int)) ∧ OnlyS S102 H186 H' ∧ SlW H' 9 (mksMark 1 L.length) S102) ?_ ?_
      · show ACalls _ _ [E186 72, E186 73] _ _
        rw [b188, b189]
        exact w_markMarkS H186 L hL S102 s204 1 (by decide) (by decide) mxL
      rintro z H206 ⟨rfl, oH206, nH206⟩
      have g207 : Grew H H206 := OnlyS.own g198 fr109 oH206
      have r208 := oH206.at r199 (by assumption)
      have r209 := oH206.at r200 (by assumption)
      have s210 := s201.only oH206 (by first | assumption | exact ApartS.symm (by assumption))
      have s211 := s202.only oH206 (by first | assumption | exact ApartS.symm (by assumption))
      have s212 := s203.only oH206 (by first | assumption | exact ApartS.symm (by assumption))
      have s213 := s205.only oH206 (by first | assumption | exact ApartS.symm (by assumption))
      refine run_mn (φ := φ0) (pm := pmR 2 [(.call 50 [.nd 11 .one, .lit (.int .i64 1)], .nd 14 (.int .i64))] 0) 20 (nk := [(.atom 0, .flt .f32), (.atom 1, .one), (.atom 2, .flt .f32), (.atom 3, .flt .f32), (.atom 4, .flt .f32), (.atom 5, .flt .f32), (.atom 6, .int .i64), (.atom 7, .int .i64), (.atom 8, .one), (.atom 9, .one), (.atom 10, .one), (.atom 11, .one), (.atom 12, .one), (.atom 13, .int .i64), (.atom 14, .int .i64)]) (fs := []) (xs := [.flt .f32 x, S, .flt .f32 ya, .flt .f32 yb, .flt .f32 yc, .flt .f32 rad, .int .i64 c, .int .i64 q1, S21, S42, S64, S102, S137, .int .i64 (1 + 9 * (ms.length : Int)), .int .i64 (1 + 9 * (L.length : Int))]) (ws := [⟨p6, 0, [.nd 0 (.flt .f32), .nd 1 .one], false⟩, ⟨p10, 0, [.nd 2 (.flt .f32), .nd 3 (.flt .f32), .nd 4 (.flt .f32)], false⟩]) (env := [(72, .nd 11 .one), (73, .lit (.int .i64 1)), (11, .nd 11 .one), (14, .lit (.int .i64 1)), (3, .ptr 0 0), (4, .ptr 1 0), (2, .nd 5 (.flt .f32)), (8, .nd 9 .one), (9, .nd 6 (.int .i64)), (74, .nd 14 (.int .i64))]) ?_ ?_ tb_ok ap_ok ?_
      · refine midN_in ?_ .nil _ ?_ ?_ ?_
        · exact (.cons rfl ⟨_, rfl, hx⟩ (.cons rfl (slOne hS) (.cons rfl ⟨_, rfl, qa⟩ (.cons rfl ⟨_, rfl, qb⟩ (.cons rfl ⟨_, rfl, qc⟩ (.cons rfl ⟨_, rfl, hrad⟩ (.cons rfl ⟨_, rfl⟩ (.cons rfl ⟨_, rfl⟩ (.cons rfl sS21.one (.cons rfl sS42.one (.cons rfl sS64.one (.cons rfl sS102.one (.cons rfl sS137.one (.cons rfl ⟨_, rfl⟩ (.cons rfl ⟨_, rfl⟩ .nil)))))))))))))))
        · exact (.cons (win_row r208 (dlCons (dNd rfl ⟨_, rfl, hx⟩) (dlCons (dNd rfl (slOne hS)) dlNil))) (.cons (win_row r209 (dlCons (dNd rfl ⟨_, rfl, qa⟩) (dlCons (dNd rfl ⟨_, rfl, qb⟩) (dlCons (dNd rfl ⟨_, rfl, qc⟩) dlNil)))) .nil))
        · exact sepOk_ro rfl
        · exact (.cons (rule_call (args := [S102, .int .i64 1]) (dlCons (dNd rfl sS102.one) (dlCons (dLit rfl) dlNil)) (dNd rfl ⟨_, rfl⟩) (fun H9 hk => k_heldMarkS H9 1 L.length S102 ((nH206.grew (hk.grew (Nat.le_refl _)))).toL (by decide) (by decide) mxL)) .nil)
      · exact (envEq (put_ne rfl b188) (dNd rfl sS102.one) (envEq (put_ne rfl b189) (dLit rfl) (envEq (put_ne rfl b190) (dNd rfl sS102.one) (envEq (put_ne rfl b191) (dLit rfl) (envEq (put_ne rfl b192) (dPtr (l := p6) (o := 0) rfl) (envEq (put_ne rfl b193) (dPtr (l := p10) (o := 0) rfl) (envEq (put_ne rfl b194) (dNd rfl ⟨_, rfl, hrad⟩) (envEq (put_ne rfl b195) (dNd rfl sS42.one) (envEq (put_ne rfl b196) (dNd rfl ⟨_, rfl⟩) (envEq put_same (dNd rfl ⟨_, rfl⟩) envNil))))))))))
      refine all2 (by kernel_rfl) ?_ ?_
      ·
        intro vs ls H214 E214 st hE
        have f215 : (1 + 9 * (L.length : Int)) < 0 := of_decide_eq_true (bfact (x := decide ((1 + 9 * (L.length : Int)) < 0)) st.inn 0 (by kernel_rfl))
        exact absurd f215 (by omega)
      ·
        intro vs ls H216 E216 st hE
        have f217 : ¬ ((1 + 9 * (L.length : Int)) < 0) := of_decide_eq_false (bfact (x := decide ((1 + 9 * (L.length : Int)) < 0)) st.inn 0 (by kernel_rfl))
        have b218 : E216 84 = .agg [.flt .f32 x, S] := env_of st.inn hE 84 (by kernel_rfl)
        have b219 : E216 86 = .agg [.flt .f32 ya, .flt .f32 yb, .flt .f32 yc] := env_of st.inn hE 86 (by kernel_rfl)
        have b220 : E216 88 = .flt .f32 rad := env_of st.inn hE 88 (by kernel_rfl)
        have b221 : E216 8 = S42 := env_of st.inn hE 8 (by kernel_rfl)
        have b222 : E216 9 = .int .i64 c := env_of st.inn hE 9 (by kernel_rfl)
        have b223 : E216 11 = S102 := env_of st.inn hE 11 (by kernel_rfl)
        have b224 : E216 15 = .int .i64 (1 + 9 * (L.length : Int)) := env_of st.inn hE 15 (by kernel_rfl)
        have b225 : E216 14 = .int .i64 (1 + 9 * (L.length : Int)) := env_of st.inn hE 14 (by kernel_rfl)
        have g226 : Grew H206 H216 := (st.kept.grew (Nat.le_of_ble_eq_true (by kernel_rfl)))
        have g227 : Grew H H216 := Grew.trans g207 g226
        have r228 := g226.at r208
        have r229 := g226.at r209
        have s230 := s210.grew g226
        have s231 := s211.grew g226
        have s232 := s212.grew g226
        have s233 := nH206.grew g226
        have s234 := s213.grew g226
        clear st hE vs ls
        refine res_kid (free := false) (d := (some 85)) (f := 32) (args := [.tmp 84]) (by kernel_rfl) (R := fun z H' => Grew H216 H' ∧ ∃ S', z = .agg [.flt .f32 x, S'] ∧ SlW H' 9 ms S' ∧ FreshS H216.next S') ?_ ?_
        · show ACalls _ _ [E216 84] _ _
          rw [b218]
          exact w_toLandMap H216 x hx ms hr S (hS.grew g227) mxms
        rintro z H236 ⟨gS235, S235, rfl, sS235, fS235⟩
        refine ⟨gS235, ?_⟩
        have ne237 : ApartS (S235) (S21) := fS235.apartS s230.lt
        have ne238 : ApartS (S235) (S42) := fS235.apartS s231.lt
        have ne239 : ApartS (S235) (S64) := fS235.apartS s232.lt
        have ne240 : ApartS (S235) (S102) := fS235.apartS s233.lt
        have ne241 : ApartS (S235) (S137) := fS235.apartS s234.lt
        have fr242 : FreshS H.next (S235) := fS235.mono g227.next
        have g243 : Grew H H236 := Grew.trans g227 gS235
        have s244 := s230.grew gS235
        have s245 := s231.grew gS235
        have s246 := s232.grew gS235
        have s247 := s233.grew gS235
        have s248 := s234.grew gS235
        refine run_mn (φ := φ0) (pm := pmR 0 [(.call 22 [.agg [.nd 2 (.flt .f32), .nd 3 (.flt .f32), .nd 4 (.flt .f32)]], .agg [.nd 2 (.flt .f32), .nd 3 (.flt .f32), .nd 4 (.flt .f32)])] 0) 20 (nk := [(.atom 0, .flt .f32), (.atom 1, .one), (.atom 2, .flt .f32), (.atom 3, .flt .f32), (.atom 4, .flt .f32), (.atom 5, .flt .f32), (.atom 6, .int .i64), (.atom 7, .int .i64), (.atom 8, .one), (.atom 9, .one), (.atom 10, .one), (.atom 11, .one), (.atom 12, .one), (.atom 13, .int .i64), (.atom 14, .int .i64), (.atom 15, .one)]) (fs := []) (xs := [.flt .f32 x, S, .flt .f32 ya, .flt .f32 yb, .flt .f32 yc, .flt .f32 rad, .int .i64 c, .int .i64 q1, S21, S42, S64, S102, S137, .int .i64 (1 + 9 * (ms.length : Int)), .int .i64 (1 + 9 * (L.length : Int)), S235]) (ws := []) (env := [(84, .agg [.nd 0 (.flt .f32), .nd 1 .one]), (86, .agg [.nd 2 (.flt .f32), .nd 3 (.flt .f32), .nd 4 (.flt .f32)]), (88, .nd 5 (.flt .f32)), (8, .nd 9 .one), (9, .nd 6 (.int .i64)), (11, .nd 11 .one), (15, .nd 14 (.int .i64)), (14, .nd 14 (.int .i64)), (85, .agg [.nd 0 (.flt .f32), .nd 15 .one])]) ?_ ?_ tb_ok ap_ok ?_
        · refine midN_in ?_ .nil _ ?_ ?_ ?_
          · exact (.cons rfl ⟨_, rfl, hx⟩ (.cons rfl (slOne hS) (.cons rfl ⟨_, rfl, qa⟩ (.cons rfl ⟨_, rfl, qb⟩ (.cons rfl ⟨_, rfl, qc⟩ (.cons rfl ⟨_, rfl, hrad⟩ (.cons rfl ⟨_, rfl⟩ (.cons rfl ⟨_, rfl⟩ (.cons rfl sS21.one (.cons rfl sS42.one (.cons rfl sS64.one (.cons rfl sS102.one (.cons rfl sS137.one (.cons rfl ⟨_, rfl⟩ (.cons rfl ⟨_, rfl⟩ (.cons rfl sS235.one .nil))))))))))))))))
          · exact .nil
          · exact sepOk_ro rfl
          · exact (.cons (rule_call (args := [.agg [.flt .f32 ya, .flt .f32 yb, .flt .f32 yc]]) (dlCons (dAgg (dlCons (dNd rfl ⟨_, rfl, qa⟩) (dlCons (dNd rfl ⟨_, rfl, qb⟩) (dlCons (dNd rfl ⟨_, rfl, qc⟩) dlNil)))) dlNil) (dAgg (dlCons (dNd rfl ⟨_, rfl, qa⟩) (dlCons (dNd rfl ⟨_, rfl, qb⟩) (dlCons (dNd rfl ⟨_, rfl, qc⟩) dlNil)))) (fun H9 hk => k_toVec ya yb yc qa qb qc H9)) .nil)
        · exact (envEq (put_ne rfl b218) (dAgg (dlCons (dNd rfl ⟨_, rfl, hx⟩) (dlCons (dNd rfl (slOne hS)) dlNil))) (envEq (put_ne rfl b219) (dAgg (dlCons (dNd rfl ⟨_, rfl, qa⟩) (dlCons (dNd rfl ⟨_, rfl, qb⟩) (dlCons (dNd rfl ⟨_, rfl, qc⟩) dlNil)))) (envEq (put_ne rfl b220) (dNd rfl ⟨_, rfl, hrad⟩) (envEq (put_ne rfl b221) (dNd rfl sS42.one) (envEq (put_ne rfl b222) (dNd rfl ⟨_, rfl⟩) (envEq (put_ne rfl b223) (dNd rfl sS102.one) (envEq (put_ne rfl b224) (dNd rfl ⟨_, rfl⟩) (envEq (put_ne rfl b225) (dNd rfl ⟨_, rfl⟩) (envEq put_same (dAgg (dlCons (dNd rfl ⟨_, rfl, hx⟩) (dlCons (dNd rfl sS235.one) dlNil))) envNil)))))))))
        refine all1 (by kernel_rfl) ?_
        intro vs ls H249 E249 st hE
        have b250 : E249 85 = .agg [.flt .f32 x, S235] := env_of st.inn hE 85 (by kernel_rfl)
        have b251 : E249 87 = .agg [.flt .f32 ya, .flt .f32 yb, .flt .f32 yc] := env_of st.inn hE 87 (by kernel_rfl)
        have b252 : E249 88 = .flt .f32 rad := env_of st.inn hE 88 (by kernel_rfl)
        have b253 : E249 8 = S42 := env_of st.inn hE 8 (by kernel_rfl)
        have b254 : E249 9 = .int .i64 c := env_of st.inn hE 9 (by kernel_rfl)
        have b255 : E249 11 = S102 := env_of st.inn hE 11 (by kernel_rfl)
        have b256 : E249 15 = .int .i64 (1 + 9 * (L.length : Int)) := env_of st.inn hE 15 (by kernel_rfl)
        have b257 : E249 14 = .int .i64 (1 + 9 * (L.length : Int)) := env_of st.inn hE 14 (by kernel_rfl)
        have g258 : Grew H236 H249 := (st.kept.grew (Nat.le_of_ble_eq_true (by kernel_rfl)))
        have g259 : Grew H H249 := Grew.trans g243 g258
        have s260 := s244.grew g258
        have s261 := s245.grew g258
        have s262 := s246.grew g258
        have s263 := s247.grew g258
        have s264 := s248.grew g258
        have s265 := sS235.grew g258
        clear st hE vs ls
        refine res_kid (free := false) (d := (some 89)) (f := 47) (args := [.tmp 85, .tmp 87, .tmp 88]) (by kernel_rfl) (R := fun z H' => Grew H249 H' ∧ ∃ S', z = .tuple [S', .int .i64 c] ∧ SlW H' 9 L S' ∧ FreshS H249.next S') ?_ ?_
        · show ACalls _ _ [E249 85, E249 87, E249 88] _ _
          rw [b250, b251, b252]
          exact (by have h9 := k_impl_MarksWithin H249 x hx ms hr (S235) s265.toL mxms ya yb yc qa qb qc rad hrad; rw [hV] at h9; exact h9)
        rintro z H266 ⟨gH266, S267, rfl, sS267, fS267⟩
        refine ⟨gH266, ?_⟩
        have ne268 : ApartS (S267) (S21) := fS267.apartS s260.lt
        have ne269 : ApartS (S267) (S42) := fS267.apartS s261.lt
        have ne270 : ApartS (S267) (S64) := fS267.apartS s262.lt
        have ne271 : ApartS (S267) (S102) := fS267.apartS s263.lt
        have ne272 : ApartS (S267) (S137) := fS267.apartS s264.lt
        have ne273 : ApartS (S267) (S235) := fS267.apartS s265.lt
        have fr274 : FreshS H.next (S267) := fS267.mono g259.next
        have g275 : Grew H H266 := Grew.trans g259 gH266
        have s276 := s260.grew gH266
        have s277 := s261.grew gH266
        have s278 := s262.grew gH266
        have s279 := s263.grew gH266
        have s280 := s264.grew gH266
        have s281 := s265.grew gH266
        refine run_mn (φ := φ0) (pm := pmR 0 [(.call 48 [.nd 16 .one, .nd 9 .one], .lit (.bool true)), (.call 50 [.nd 11 .one, .lit (.int .i64 1)], .nd 14 (.int .i64))] 0) 20 (nk := [(.atom 0, .flt .f32), (.atom 1, .one), (.atom 2, .flt .f32), (.atom 3, .flt .f32), (.atom 4, .flt .f32), (.atom 5, .flt .f32), (.atom 6, .int .i64), (.atom 7, .int .i64), (.atom 8, .one), (.atom 9, .one), (.atom 10, .one), (.atom 11, .one), (.atom 12, .one), (.atom 13, .int .i64), (.atom 14, .int .i64), (.atom 15, .one), (.atom 16, .one)]) (fs := []) (xs := [.flt .f32 x, S, .flt .f32 ya, .flt .f32 yb, .flt .f32 yc, .flt .f32 rad, .int .i64 c, .int .i64 q1, S21, S42, S64, S102, S137, .int .i64 (1 + 9 * (ms.length : Int)), .int .i64 (1 + 9 * (L.length : Int)), S235, S267]) (ws := []) (env := [(85, .agg [.nd 0 (.flt .f32), .nd 15 .one]), (87, .agg [.nd 2 (.flt .f32), .nd 3 (.flt .f32), .nd 4 (.flt .f32)]), (88, .nd 5 (.flt .f32)), (8, .nd 9 .one), (9, .nd 6 (.int .i64)), (11, .nd 11 .one), (15, .nd 14 (.int .i64)), (14, .nd 14 (.int .i64)), (89, .tup [.nd 16 .one, .nd 6 (.int .i64)])]) ?_ ?_ tb_ok ap_ok ?_
        · refine midN_in ?_ .nil _ ?_ ?_ ?_
          · exact (.cons rfl ⟨_, rfl, hx⟩ (.cons rfl (slOne hS) (.cons rfl ⟨_, rfl, qa⟩ (.cons rfl ⟨_, rfl, qb⟩ (.cons rfl ⟨_, rfl, qc⟩ (.cons rfl ⟨_, rfl, hrad⟩ (.cons rfl ⟨_, rfl⟩ (.cons rfl ⟨_, rfl⟩ (.cons rfl sS21.one (.cons rfl sS42.one (.cons rfl sS64.one (.cons rfl sS102.one (.cons rfl sS137.one (.cons rfl ⟨_, rfl⟩ (.cons rfl ⟨_, rfl⟩ (.cons rfl sS235.one (.cons rfl sS267.one .nil)))))))))))))))))
          · exact .nil
          · exact sepOk_ro rfl
          · exact (.cons (rule_call (args := [S267, S42]) (dlCons (dNd rfl sS267.one) (dlCons (dNd rfl sS42.one) dlNil)) (dLit rfl) (fun H9 hk => k_eqMarkS H9 L hL _ _ ((sS267.grew (hk.grew (Nat.le_refl _)))).toL ((s277.grew (hk.grew (Nat.le_refl _)))).toL (mx40 mxL))) (.cons (rule_call (args := [S102, .int .i64 1]) (dlCons (dNd rfl sS102.one) (dlCons (dLit rfl) dlNil)) (dNd rfl ⟨_, rfl⟩) (fun H9 hk => k_heldMarkS H9 1 L.length S102 ((s279.grew (hk.grew (Nat.le_refl _)))).toL (by decide) (by decide) mxL)) .nil))
        · exact (envEq (put_ne rfl b250) (dAgg (dlCons (dNd rfl ⟨_, rfl, hx⟩) (dlCons (dNd rfl sS235.one) dlNil))) (envEq (put_ne rfl b251) (dAgg (dlCons (dNd rfl ⟨_, rfl, qa⟩) (dlCons (dNd rfl ⟨_, rfl, qb⟩) (dlCons (dNd rfl ⟨_, rfl, qc⟩) dlNil)))) (envEq (put_ne rfl b252) (dNd rfl ⟨_, rfl, hrad⟩) (envEq (put_ne rfl b253) (dNd rfl sS42.one) (envEq (put_ne rfl b254) (dNd rfl ⟨_, rfl⟩) (envEq (put_ne rfl b255) (dNd rfl sS102.one) (envEq (put_ne rfl b256) (dNd rfl ⟨_, rfl⟩) (envEq (put_ne rfl b257) (dNd rfl ⟨_, rfl⟩) (envEq put_same (dTup' (dlCons (dNd rfl sS267.one) (dlCons (dNd rfl ⟨_, rfl⟩) dlNil))) envNil)))))))))
        refine all2 (by kernel_rfl) ?_ ?_
        ·
          intro vs ls H282 E282 st hE
          have f283 : (1 + 9 * (L.length : Int)) < 0 := of_decide_eq_true (bfact (x := decide ((1 + 9 * (L.length : Int)) < 0)) st.inn 0 (by kernel_rfl))
          exact absurd f283 (by omega)
        ·
          intro vs ls H284 E284 st hE
          have f285 : ¬ ((1 + 9 * (L.length : Int)) < 0) := of_decide_eq_false (bfact (x := decide ((1 + 9 * (L.length : Int)) < 0)) st.inn 0 (by kernel_rfl))
          exact res_ex (by kernel_rfl) (end_same st.inn hE (.inr rfl) (a := .bool true) (by kernel_rfl) (Nat.le_trans g275.next st.kept.1) rfl)
end Go.Proofs.Ytgjhjemmddojfaa
