/- Contracts: MarksWithin, by both. -/
import Derived.Test.YtgjhjemmddojfaaWithinA
import Derived.Test.YtgjhjemmddojfaaLawValidMap
set_option linter.unusedVariables false
set_option linter.unusedSimpArgs false
namespace Go.Proofs.Ytgjhjemmddojfaa
open Go.Ab
set_option maxRecDepth 100000
set_option maxHeartbeats 1000000
attribute [local irreducible] Res
open Classical in
noncomputable def withinV (x : Option Nat) (ms : List (List AV)) (v : List AV) (r : Option Nat) : List (List AV) × Int :=
  if okMap x ms = false then ([], 1) else if finV v = true ∧ (ford .f32 (some 0) r == some .lt || ford .f32 (some 0) r == some .eq) = true then (ms.filter (fun m => !farB v r m), 0) else ([], 2)
theorem far_keep {v m : List AV} {r : Option Nat} (h : (ford .f32 (awayF v m) r == some .lt || ford .f32 (awayF v m) r == some .eq) = true) : ¬ (farB v r m = true) := by
  unfold farB; rw [h]; decide
theorem far_drop {v m : List AV} {r : Option Nat} (h : (ford .f32 (awayF v m) r == some .lt || ford .f32 (awayF v m) r == some .eq) = false) : farB v r m = true := by
  unfold farB; rw [h]; rfl
theorem k_impl_MarksWithin (H : AHeap) (x : Option Nat) (hx : fOk .f32 x) (ms : List (List AV)) (hr : Recs KM ms) (S : AV) (hS : SlL H 9 ms S) (mxms : ms.length ≤ 1048576) (ya yb yc : Option Nat) (qa : fOk .f32 ya) (qb : fOk .f32 yb) (qc : fOk .f32 yc) (rad : Option Nat) (hrad : fOk .f32 rad) : ACalls Try.prog 47 [.agg [.flt .f32 x, S], .agg [.flt .f32 ya, .flt .f32 yb, .flt .f32 yc], .flt .f32 rad] H fun r H' => Grew H H' ∧ ∃ S', r = .tuple [S', .int .i64 (withinV x ms [.flt .f32 ya, .flt .f32 yb, .flt .f32 yc] rad).2] ∧ SlW H' 9 (withinV x ms [.flt .f32 ya, .flt .f32 yb, .flt .f32 yc] rad).1 S' ∧ FreshS H.next S' := by
  refine res_start h_impl_MarksWithin (by simp) ?_
  refine run_mn (φ := φ0) (pm := pmR 0 [(.call 35 [.agg [.nd 0 (.flt .f32), .nd 1 .one]], .nd 6 .bool), (.call 62 [.agg [.nd 2 (.flt .f32), .nd 3 (.flt .f32), .nd 4 (.flt .f32)]], .nd 7 .bool)] 0) 20 (nk := [(.atom 0, .flt .f32), (.atom 1, .one), (.atom 2, .flt .f32), (.atom 3, .flt .f32), (.atom 4, .flt .f32), (.atom 5, .flt .f32), (.atom 6, .bool), (.atom 7, .bool)]) (fs := []) (xs := [.flt .f32 x, S, .flt .f32 ya, .flt .f32 yb, .flt .f32 yc, .flt .f32 rad, .bool (okMap x ms), .bool (finV [.flt .f32 ya, .flt .f32 yb, .flt .f32 yc])]) (ws := []) (env := [(0, .agg [.nd 0 (.flt .f32), .nd 1 .one]), (1, .agg [.nd 2 (.flt .f32), .nd 3 (.flt .f32), .nd 4 (.flt .f32)]), (2, .nd 5 (.flt .f32))]) ?_ ?_ tb_ok ap_ok ?_
  · refine midN_in ?_ .nil _ ?_ ?_ ?_
    · exact (.cons rfl ⟨_, rfl, hx⟩ (.cons rfl (slOne hS) (.cons rfl ⟨_, rfl, qa⟩ (.cons rfl ⟨_, rfl, qb⟩ (.cons rfl ⟨_, rfl, qc⟩ (.cons rfl ⟨_, rfl, hrad⟩ (.cons rfl ⟨_, rfl⟩ (.cons rfl ⟨_, rfl⟩ .nil))))))))
    · exact .nil
    · exact sepOk_ro rfl
    · exact (.cons (rule_call (args := [.agg [.flt .f32 x, S]]) (dlCons (dAgg (dlCons (dNd rfl ⟨_, rfl, hx⟩) (dlCons (dNd rfl (slOne hS)) dlNil))) dlNil) (dNd rfl ⟨_, rfl⟩) (fun H9 hk => k_impl_ValidMap H9 x hx S ms hr (hS.grew (Grew.trans (Grew.refl _) (hk.grew (Nat.le_refl _)))) (mx40 mxms))) (.cons (rule_call (args := [.agg [.flt .f32 ya, .flt .f32 yb, .flt .f32 yc]]) (dlCons (dAgg (dlCons (dNd rfl ⟨_, rfl, qa⟩) (dlCons (dNd rfl ⟨_, rfl, qb⟩) (dlCons (dNd rfl ⟨_, rfl, qc⟩) dlNil)))) dlNil) (dNd rfl ⟨_, rfl⟩) (fun H9 hk => k_IsFiniteVec [.flt .f32 ya, .flt .f32 yb, .flt .f32 yc] (.cons ⟨_, rfl, qa⟩ (.cons ⟨_, rfl, qb⟩ (.cons ⟨_, rfl, qc⟩ .nil))) H9)) .nil))
  · exact (envEq rfl (dAgg (dlCons (dNd rfl ⟨_, rfl, hx⟩) (dlCons (dNd rfl (slOne hS)) dlNil))) (envEq rfl (dAgg (dlCons (dNd rfl ⟨_, rfl, qa⟩) (dlCons (dNd rfl ⟨_, rfl, qb⟩) (dlCons (dNd rfl ⟨_, rfl, qc⟩) dlNil)))) (envEq rfl (dNd rfl ⟨_, rfl, hrad⟩) envNil)))
  refine all4 (by kernel_rfl) ?_ ?_ ?_ ?_
  ·
    intro vs ls H1 E1 st hE
    have f2 : (okMap x ms) = false := bfact st.inn 0 (by kernel_rfl)
    have gz : Grew H H1 := (Grew.trans (Grew.refl _) (st.kept.grew (Nat.le_of_ble_eq_true (by kernel_rfl))))
    have hc : withinV x ms [.flt .f32 ya, .flt .f32 yb, .flt .f32 yc] rad = ([], 1) := by
      unfold withinV
      rw [f2]; rfl
    exact res_ex (by kernel_rfl) (end_same st.inn hE (.inr rfl) (a := .tuple [.nilslice, .int .i64 1]) (by kernel_rfl) gz.next (by rw [hc]; exact ⟨gz, _, rfl, (.nil rfl), FreshS.nil⟩))
  ·
    intro vs ls H3 E3 st hE
    have f4 : (finV [.flt .f32 ya, .flt .f32 yb, .flt .f32 yc]) = false := bfact st.inn 0 (by kernel_rfl)
    have f5 : (okMap x ms) = true := bfact st.inn 1 (by kernel_rfl)
    have gz : Grew H H3 := (Grew.trans (Grew.refl _) (st.kept.grew (Nat.le_of_ble_eq_true (by kernel_rfl))))
    have hc : withinV x ms [.flt .f32 ya, .flt .f32 yb, .flt .f32 yc] rad = ([], 2) := by
      unfold withinV
      rw [f5, if_neg (by decide), if_neg (fun h => by rw [f4] at h; cases h.1)]
    exact res_ex (by kernel_rfl) (end_same st.inn hE (.inr rfl) (a := .tuple [.nilslice, .int .i64 2]) (by kernel_rfl) gz.next (by rw [hc]; exact ⟨gz, _, rfl, (.nil rfl), FreshS.nil⟩))
  ·
    intro vs ls H6 E6 st hE
    have f7 : (ford .f32 (some 0) rad == some .lt || ford .f32 (some 0) rad == some .eq) = false := bfact st.inn 0 (by kernel_rfl)
    have f8 : (finV [.flt .f32 ya, .flt .f32 yb, .flt .f32 yc]) = true := bfact st.inn 1 (by kernel_rfl)
    have f9 : (okMap x ms) = true := bfact st.inn 2 (by kernel_rfl)
    have gz : Grew H H6 := (Grew.trans (Grew.refl _) (st.kept.grew (Nat.le_of_ble_eq_true (by kernel_rfl))))
    have hc : withinV x ms [.flt .f32 ya, .flt .f32 yb, .flt .f32 yc] rad = ([], 2) := by
      unfold withinV
      rw [f9, if_neg (by decide), if_neg (fun h => by rw [f7] at h; cases h.2)]
    exact res_ex (by kernel_rfl) (end_same st.inn hE (.inr rfl) (a := .tuple [.nilslice, .int .i64 2]) (by kernel_rfl) gz.next (by rw [hc]; exact ⟨gz, _, rfl, (.nil rfl), FreshS.nil⟩))
  ·
    intro vs ls H10 E10 st hE
    have f11 : (ford .f32 (some 0) rad == some .lt || ford .f32 (some 0) rad == some .eq) = true := bfact st.inn 0 (by kernel_rfl)
    have f12 : (finV [.flt .f32 ya, .flt .f32 yb, .flt .f32 yc]) = true := bfact st.inn 1 (by kernel_rfl)
    have f13 : (okMap x ms) = true := bfact st.inn 2 (by kernel_rfl)
    obtain ⟨p14, e15, r16, n17⟩ := ptr_of st.inn hE 4 1 (by kernel_rfl) (ds := [.flt .f32 ya, .flt .f32 yb, .flt .f32 yc]) (by kernel_rfl)
    have op14 : H.next ≤ p14 := Nat.le_trans (Nat.le_refl _) (n17 (Nat.le_of_ble_eq_true rfl))
    obtain ⟨p18, e19, r20, n21⟩ := ptr_of st.inn hE 5 2 (by kernel_rfl) (ds := [.flt .f32 rad]) (by kernel_rfl)
    have op18 : H.next ≤ p18 := Nat.le_trans (Nat.le_refl _) (n21 (Nat.le_of_ble_eq_true rfl))
    have ne22 : Apart p14 p18 := ⟨ptr_ne st.inn hE 4 1 5 2 (by kernel_rfl) (by kernel_rfl) (cs := [.nd 2 (.flt .f32), .nd 3 (.flt .f32), .nd 4 (.flt .f32)]) (by kernel_rfl) (by decide) e15 e19⟩
    have b23 : E10 22 = S := env_of st.inn hE 22 (by kernel_rfl)
    have g24 : Grew H H10 := (st.kept.grew (Nat.le_of_ble_eq_true (by kernel_rfl)))
    have g25 : Grew H H10 := Grew.trans (Grew.refl _) g24
    clear st hE vs ls
    refine res_call (d := (some 23)) (f := 86) (args := [.tmp 22]) (by kernel_rfl) (R := fun z H' => Grew H10 H' ∧ SlF H' 9 ms z ∧ FreshS H10.next z) ?_ ?_
    · show ACalls _ _ [E10 22] _ _
      rw [b23]
      exact k_CloneM H10 ms hr (S) (hS.grew g25) mxms
    rintro S26 H27 ⟨gS26, sS26, fS26⟩
    have ne28 : ApartL (S26) p14 := fS26.apartL (H10.lt_of_get r16)
    have ne29 : ApartL (S26) p18 := fS26.apartL (H10.lt_of_get r20)
    have fr30 : FreshS H.next (S26) := fS26.mono g25.next
    have g31 : Grew H H27 := Grew.trans g25 gS26
    have r32 := gS26.at r16
    have r33 := gS26.at r20
    refine run_mn (φ := φ0) (pm := pmR 2 [] 0) 20 (nk := [(.atom 0, .flt .f32), (.atom 1, .one), (.atom 2, .flt .f32), (.atom 3, .flt .f32), (.atom 4, .flt .f32), (.atom 5, .flt .f32), (.atom 6, .bool), (.atom 7, .bool), (.atom 8, .one)]) (fs := []) (xs := [.flt .f32 x, S, .flt .f32 ya, .flt .f32 yb, .flt .f32 yc, .flt .f32 rad, .bool (okMap x ms), .bool (finV [.flt .f32 ya, .flt .f32 yb, .flt .f32 yc]), S26]) (ws := [⟨p14, 0, [.nd 2 (.flt .f32), .nd 3 (.flt .f32), .nd 4 (.flt .f32)], false⟩, ⟨p18, 0, [.nd 5 (.flt .f32)], false⟩]) (env := [(22, .nd 1 .one), (4, .ptr 0 0), (5, .ptr 1 0), (23, .nd 8 .one)]) ?_ ?_ tb_ok ap_ok ?_
    · refine midN_in ?_ .nil _ ?_ ?_ ?_
      · exact (.cons rfl ⟨_, rfl, hx⟩ (.cons rfl (slOne hS) (.cons rfl ⟨_, rfl, qa⟩ (.cons rfl ⟨_, rfl, qb⟩ (.cons rfl ⟨_, rfl, qc⟩ (.cons rfl ⟨_, rfl, hrad⟩ (.cons rfl ⟨_, rfl⟩ (.cons rfl ⟨_, rfl⟩ (.cons rfl sS26.one .nil)))))))))
      · exact (.cons (win_row r32 (dlCons (dNd rfl ⟨_, rfl, qa⟩) (dlCons (dNd rfl ⟨_, rfl, qb⟩) (dlCons (dNd rfl ⟨_, rfl, qc⟩) dlNil)))) (.cons (win_row r33 (dlCons (dNd rfl ⟨_, rfl, hrad⟩) dlNil)) .nil))
      · exact sepOk_ro rfl
      · exact .nil
    · exact (envEq (put_ne rfl b23) (dNd rfl (slOne hS)) (envEq (put_ne rfl e15) (dPtr (l := p14) (o := 0) rfl) (envEq (put_ne rfl e19) (dPtr (l := p18) (o := 0) rfl) (envEq put_same (dNd rfl sS26.one) envNil))))
    refine all1 (by kernel_rfl) ?_
    intro vs ls H34 E34 st hE
    have b35 : E34 23 = S26 := env_of st.inn hE 23 (by kernel_rfl)
    have b36 : E34 24 = .func 87 [] [.ptr p14 0, .ptr p18 0] := env_of st.inn hE 24 (by kernel_rfl)
    have g37 : Grew H27 H34 := (st.kept.grew (Nat.le_of_ble_eq_true (by kernel_rfl)))
    have g38 : Grew H H34 := Grew.trans g31 g37
    have r39 := g37.at r32
    have r40 := g37.at r33
    have s41 := sS26.grew g37
    clear st hE vs ls
    refine res_call (d := (some 25)) (f := 85) (args := [.tmp 23, .tmp 24]) (by kernel_rfl) (R := fun z H' => OnlyS S26 H34 H' ∧ SlW H' 9 (ms.filter fun m => !(farB [.flt .f32 ya, .flt .f32 yb, .flt .f32 yc] rad) m) z ∧ ∀ l, AtS z l → AtS S26 l) ?_ ?_
    · show ACalls _ _ [E34 23, E34 24] _ _
      rw [b35, b36]
      exact k_DeleteFar H34 ms hr S26 s41 mxms ya yb yc qa qb qc rad hrad p14 r39 p18 r40 (by assumption) (by assumption)
    rintro S43 H42 ⟨oH42, sS43, uS43⟩
    have fsS43 : FromS H34.next (S26) S43 := ⟨fun l' hl => .inr (uS43 l' hl)⟩
    have ne44 : ApartL (S43) p14 := fsS43.apartL (H34.lt_of_get r39) (by assumption)
    have ne45 : ApartL (S43) p18 := fsS43.apartL (H34.lt_of_get r40) (by assumption)
    have fr46 : FreshS H.next S43 := fsS43.fresh fr30 g38.next
    have g47 : Grew H H42 := OnlyS.own g38 fr30 oH42
    have r48 := oH42.at r39 (by assumption)
    have r49 := oH42.at r40 (by assumption)
    refine run_mn (φ := φ0) (pm := pmR 2 [] 0) 20 (nk := [(.atom 0, .flt .f32), (.atom 1, .one), (.atom 2, .flt .f32), (.atom 3, .flt .f32), (.atom 4, .flt .f32), (.atom 5, .flt .f32), (.atom 6, .bool), (.atom 7, .bool), (.atom 8, .one), (.atom 9, .one)]) (fs := []) (xs := [.flt .f32 x, S, .flt .f32 ya, .flt .f32 yb, .flt .f32 yc, .flt .f32 rad, .bool (okMap x ms), .bool (finV [.flt .f32 ya, .flt .f32 yb, .flt .f32 yc]), S26, S43]) (ws := [⟨p14, 0, [.nd 2 (.flt .f32), .nd 3 (.flt .f32), .nd 4 (.flt .f32)], false⟩, ⟨p18, 0, [.nd 5 (.flt .f32)], false⟩]) (env := [(23, .nd 8 .one), (24, .fn 87 [] [.ptr 0 0, .ptr 1 0]), (25, .nd 9 .one)]) ?_ ?_ tb_ok ap_ok ?_
    · refine midN_in ?_ .nil _ ?_ ?_ ?_
      · exact (.cons rfl ⟨_, rfl, hx⟩ (.cons rfl (slOne hS) (.cons rfl ⟨_, rfl, qa⟩ (.cons rfl ⟨_, rfl, qb⟩ (.cons rfl ⟨_, rfl, qc⟩ (.cons rfl ⟨_, rfl, hrad⟩ (.cons rfl ⟨_, rfl⟩ (.cons rfl ⟨_, rfl⟩ (.cons rfl sS26.one (.cons rfl sS43.one .nil))))))))))
      · exact (.cons (win_row r48 (dlCons (dNd rfl ⟨_, rfl, qa⟩) (dlCons (dNd rfl ⟨_, rfl, qb⟩) (dlCons (dNd rfl ⟨_, rfl, qc⟩) dlNil)))) (.cons (win_row r49 (dlCons (dNd rfl ⟨_, rfl, hrad⟩) dlNil)) .nil))
      · exact sepOk_ro rfl
      · exact .nil
    · exact (envEq (put_ne rfl b35) (dNd rfl sS26.one) (envEq (put_ne rfl b36) (dFn' dlNil (dlCons (dPtr (l := p14) (o := 0) rfl) (dlCons (dPtr (l := p18) (o := 0) rfl) dlNil))) (envEq put_same (dNd rfl sS43.one) envNil)))
    refine all1 (by kernel_rfl) ?_
    intro vs ls H50 E50 st hE
    have gz : Grew H H50 := (Grew.trans g47 (st.kept.grew (Nat.le_of_ble_eq_true (by kernel_rfl))))
    have hc : withinV x ms [.flt .f32 ya, .flt .f32 yb, .flt .f32 yc] rad = (ms.filter (fun m => !farB [.flt .f32 ya, .flt .f32 yb, .flt .f32 yc] rad m), 0) := by
      unfold withinV
      rw [f13, if_neg (by decide), if_pos ⟨f12, f11⟩]
    exact res_ex (by kernel_rfl) (end_same st.inn hE (.inr rfl) (a := .tuple [S43, .int .i64 0]) (by kernel_rfl) gz.next (by rw [hc]; exact ⟨gz, _, rfl, (sS43.grew (st.inn.kept.grew (Nat.le_refl _))), fr46⟩))
-- SPEC
theorem k_spec_MarksWithin (H : AHeap) (x : Option Nat) (hx : fOk .f32 x) (ms : List (List AV)) (hr : Recs KM ms) (S : AV) (hS : SlL H 9 ms S) (mxms : ms.length ≤ 1048576) (ya yb yc : Option Nat) (qa : fOk .f32 ya) (qb : fOk .f32 yb) (qc : fOk .f32 yc) (rad : Option Nat) (hrad : fOk .f32 rad) : ACalls Try.prog 46 [.agg [.flt .f32 x, S], .agg [.flt .f32 ya, .flt .f32 yb, .flt .f32 yc], .flt .f32 rad] H fun r H' => Grew H H' ∧ ∃ S', r = .tuple [S', .int .i64 (withinV x ms [.flt .f32 ya, .flt .f32 yb, .flt .f32 yc] rad).2] ∧ SlW H' 9 (withinV x ms [.flt .f32 ya, .flt .f32 yb, .flt .f32 yc] rad).1 S' ∧ FreshS H.next S' := by
  refine res_start h_spec_MarksWithin (by simp) ?_
  refine run_mn (φ := φ0) (pm := pmR 0 [] 0) 20 (nk := [(.atom 0, .flt .f32), (.atom 1, .one), (.atom 2, .flt .f32), (.atom 3, .flt .f32), (.atom 4, .flt .f32), (.atom 5, .flt .f32)]) (fs := []) (xs := [.flt .f32 x, S, .flt .f32 ya, .flt .f32 yb, .flt .f32 yc, .flt .f32 rad]) (ws := []) (env := [(0, .agg [.nd 0 (.flt .f32), .nd 1 .one]), (1, .agg [.nd 2 (.flt .f32), .nd 3 (.flt .f32), .nd 4 (.flt .f32)]), (2, .nd 5 (.flt .f32))]) ?_ ?_ tb_ok ap_ok ?_
  · refine midN_in ?_ .nil _ ?_ ?_ ?_
    · exact (.cons rfl ⟨_, rfl, hx⟩ (.cons rfl (slOne hS) (.cons rfl ⟨_, rfl, qa⟩ (.cons rfl ⟨_, rfl, qb⟩ (.cons rfl ⟨_, rfl, qc⟩ (.cons rfl ⟨_, rfl, hrad⟩ .nil))))))
    · exact .nil
    · exact sepOk_ro rfl
    · exact .nil
  · exact (envEq rfl (dAgg (dlCons (dNd rfl ⟨_, rfl, hx⟩) (dlCons (dNd rfl (slOne hS)) dlNil))) (envEq rfl (dAgg (dlCons (dNd rfl ⟨_, rfl, qa⟩) (dlCons (dNd rfl ⟨_, rfl, qb⟩) (dlCons (dNd rfl ⟨_, rfl, qc⟩) dlNil)))) (envEq rfl (dNd rfl ⟨_, rfl, hrad⟩) envNil)))
  refine all1 (by kernel_rfl) ?_
  intro vs ls H1 E1 st hE
  obtain ⟨p2, e3, r4, n5⟩ := ptr_of st.inn hE 3 0 (by kernel_rfl) (ds := [.flt .f32 x, S]) (by kernel_rfl)
  have op2 : H.next ≤ p2 := Nat.le_trans (Nat.le_refl _) (n5 (Nat.le_of_ble_eq_true rfl))
  obtain ⟨p6, e7, r8, n9⟩ := ptr_of st.inn hE 4 1 (by kernel_rfl) (ds := [.flt .f32 ya, .flt .f32 yb, .flt .f32 yc]) (by kernel_rfl)
  have op6 : H.next ≤ p6 := Nat.le_trans (Nat.le_refl _) (n9 (Nat.le_of_ble_eq_true rfl))
  have ne10 : Apart p2 p6 := ⟨ptr_ne st.inn hE 3 0 4 1 (by kernel_rfl) (by kernel_rfl) (cs := [.nd 0 (.flt .f32), .nd 1 .one]) (by kernel_rfl) (by decide) e3 e7⟩
  have b11 : E1 2 = .flt .f32 rad := env_of st.inn hE 2 (by kernel_rfl)
  have g12 : Grew H H1 := (st.kept.grew (Nat.le_of_ble_eq_true (by kernel_rfl)))
  have g13 : Grew H H1 := Grew.trans (Grew.refl _) g12
  clear st hE vs ls
  refine res_call (d := (some 10)) (f := 72) (args := [.tmp 3]) (by kernel_rfl) (R := fun z H' => z = .bool (okMap x ms) ∧ H' = H1) ?_ ?_
  · show ACalls _ _ [E1 3] _ _
    rw [e3]
    exact k_l05Ok H1 p2 x hx S true ms hr r4 (hS.grew g13) (mx40 mxms)
  rintro z H1 ⟨rfl, rfl⟩
  refine run_mn (φ := φ0) (pm := pmR 2 [(.call 83 [.agg [.nd 2 (.flt .f32), .nd 3 (.flt .f32), .nd 4 (.flt .f32)]], .nd 7 .bool)] 0) 20 (nk := [(.atom 0, .flt .f32), (.atom 1, .one), (.atom 2, .flt .f32), (.atom 3, .flt .f32), (.atom 4, .flt .f32), (.atom 5, .flt .f32), (.atom 6, .bool), (.atom 7, .bool)]) (fs := []) (xs := [.flt .f32 x, S, .flt .f32 ya, .flt .f32 yb, .flt .f32 yc, .flt .f32 rad, .bool (okMap x ms), .bool (finV [.flt .f32 ya, .flt .f32 yb, .flt .f32 yc])]) (ws := [⟨p2, 0, [.nd 0 (.flt .f32), .nd 1 .one], false⟩, ⟨p6, 0, [.nd 2 (.flt .f32), .nd 3 (.flt .f32), .nd 4 (.flt .f32)], false⟩]) (env := [(3, .ptr 0 0), (4, .ptr 1 0), (2, .nd 5 (.flt .f32)), (10, .nd 6 .bool)]) ?_ ?_ tb_ok ap_ok ?_
  · refine midN_in ?_ .nil _ ?_ ?_ ?_
    · exact (.cons rfl ⟨_, rfl, hx⟩ (.cons rfl (slOne hS) (.cons rfl ⟨_, rfl, qa⟩ (.cons rfl ⟨_, rfl, qb⟩ (.cons rfl ⟨_, rfl, qc⟩ (.cons rfl ⟨_, rfl, hrad⟩ (.cons rfl ⟨_, rfl⟩ (.cons rfl ⟨_, rfl⟩ .nil))))))))
    · exact (.cons (win_row r4 (dlCons (dNd rfl ⟨_, rfl, hx⟩) (dlCons (dNd rfl (slOne hS)) dlNil))) (.cons (win_row r8 (dlCons (dNd rfl ⟨_, rfl, qa⟩) (dlCons (dNd rfl ⟨_, rfl, qb⟩) (dlCons (dNd rfl ⟨_, rfl, qc⟩) dlNil)))) .nil))
    · exact sepOk_ro rfl
    · exact (.cons (rule_call (args := [.agg [.flt .f32 ya, .flt .f32 yb, .flt .f32 yc]]) (dlCons (dAgg (dlCons (dNd rfl ⟨_, rfl, qa⟩) (dlCons (dNd rfl ⟨_, rfl, qb⟩) (dlCons (dNd rfl ⟨_, rfl, qc⟩) dlNil)))) dlNil) (dNd rfl ⟨_, rfl⟩) (fun H9 hk => k_l01Vec [.flt .f32 ya, .flt .f32 yb, .flt .f32 yc] (.cons ⟨_, rfl, qa⟩ (.cons ⟨_, rfl, qb⟩ (.cons ⟨_, rfl, qc⟩ .nil))) H9)) .nil)
  · exact (envEq (put_ne rfl e3) (dPtr (l := p2) (o := 0) rfl) (envEq (put_ne rfl e7) (dPtr (l := p6) (o := 0) rfl) (envEq (put_ne rfl b11) (dNd rfl ⟨_, rfl, hrad⟩) (envEq put_same (dNd rfl ⟨_, rfl⟩) envNil))))
  refine all4 (by kernel_rfl) ?_ ?_ ?_ ?_
  ·
    intro vs ls H14 E14 st hE
    have f15 : (okMap x ms) = false := bfact st.inn 0 (by kernel_rfl)
    have gz : Grew H H14 := (Grew.trans g13 (st.kept.grew (Nat.le_of_ble_eq_true (by kernel_rfl))))
    have hc : withinV x ms [.flt .f32 ya, .flt .f32 yb, .flt .f32 yc] rad = ([], 1) := by
      unfold withinV
      rw [f15]; rfl
    obtain ⟨pz, ez, rz, nz⟩ := sl_of st.inn hE 6 2 0 0 9 (by kernel_rfl) (ds := []) (by kernel_rfl)
    have oz : H.next ≤ pz := Nat.le_trans g13.next (nz (Nat.le_of_ble_eq_true rfl))
    have e7 : E14 7 = .int .i64 1 := env_of st.inn hE 7 (by kernel_rfl)
    exact res_ex (by kernel_rfl) (end_tmps (.inr rfl) ez e7 gz.next (by rw [hc]; exact ⟨gz, _, rfl, .sl (by simpa using rz) rfl (Nat.le_refl _), .of_le oz⟩))
  ·
    intro vs ls H16 E16 st hE
    have f17 : (finV [.flt .f32 ya, .flt .f32 yb, .flt .f32 yc]) = false := bfact st.inn 0 (by kernel_rfl)
    have f18 : (okMap x ms) = true := bfact st.inn 1 (by kernel_rfl)
    have gz : Grew H H16 := (Grew.trans g13 (st.kept.grew (Nat.le_of_ble_eq_true (by kernel_rfl))))
    have hc : withinV x ms [.flt .f32 ya, .flt .f32 yb, .flt .f32 yc] rad = ([], 2) := by
      unfold withinV
      rw [f18, if_neg (by decide), if_neg (fun h => by rw [f17] at h; cases h.1)]
    obtain ⟨pz, ez, rz, nz⟩ := sl_of st.inn hE 6 2 0 0 9 (by kernel_rfl) (ds := []) (by kernel_rfl)
    have oz : H.next ≤ pz := Nat.le_trans g13.next (nz (Nat.le_of_ble_eq_true rfl))
    have e7 : E16 7 = .int .i64 2 := env_of st.inn hE 7 (by kernel_rfl)
    exact res_ex (by kernel_rfl) (end_tmps (.inr rfl) ez e7 gz.next (by rw [hc]; exact ⟨gz, _, rfl, .sl (by simpa using rz) rfl (Nat.le_refl _), .of_le oz⟩))
  ·
    intro vs ls H19 E19 st hE
    have f20 : (ford .f32 (some 0) rad == some .lt || ford .f32 (some 0) rad == some .eq) = false := bfact st.inn 0 (by kernel_rfl)
    have f21 : (finV [.flt .f32 ya, .flt .f32 yb, .flt .f32 yc]) = true := bfact st.inn 1 (by kernel_rfl)
    have f22 : (okMap x ms) = true := bfact st.inn 2 (by kernel_rfl)
    have gz : Grew H H19 := (Grew.trans g13 (st.kept.grew (Nat.le_of_ble_eq_true (by kernel_rfl))))
    have hc : withinV x ms [.flt .f32 ya, .flt .f32 yb, .flt .f32 yc] rad = ([], 2) := by
      unfold withinV
      rw [f22, if_neg (by decide), if_neg (fun h => by rw [f20] at h; cases h.2)]
    obtain ⟨pz, ez, rz, nz⟩ := sl_of st.inn hE 6 2 0 0 9 (by kernel_rfl) (ds := []) (by kernel_rfl)
    have oz : H.next ≤ pz := Nat.le_trans g13.next (nz (Nat.le_of_ble_eq_true rfl))
    have e7 : E19 7 = .int .i64 2 := env_of st.inn hE 7 (by kernel_rfl)
    exact res_ex (by kernel_rfl) (end_tmps (.inr rfl) ez e7 gz.next (by rw [hc]; exact ⟨gz, _, rfl, .sl (by simpa using rz) rfl (Nat.le_refl _), .of_le oz⟩))
  ·
    intro vs ls H23 E23 st hE
    have f24 : (ford .f32 (some 0) rad == some .lt || ford .f32 (some 0) rad == some .eq) = true := bfact st.inn 0 (by kernel_rfl)
    have f25 : (finV [.flt .f32 ya, .flt .f32 yb, .flt .f32 yc]) = true := bfact st.inn 1 (by kernel_rfl)
    have f26 : (okMap x ms) = true := bfact st.inn 2 (by kernel_rfl)
    obtain ⟨p27, e28, r29, n30⟩ := sl_of st.inn hE 8 2 0 0 9 (by kernel_rfl) (ds := []) (by kernel_rfl)
    have op27 : H.next ≤ p27 := Nat.le_trans g13.next (n30 (Nat.le_of_ble_eq_true rfl))
    have ne31 : Apart p27 p2 := ⟨Nat.ne_of_gt (Nat.lt_of_lt_of_le (H1.lt_of_get r4) (n30 (Nat.le_of_ble_eq_true rfl)))⟩
    have ne32 : Apart p27 p6 := ⟨Nat.ne_of_gt (Nat.lt_of_lt_of_le (H1.lt_of_get r8) (n30 (Nat.le_of_ble_eq_true rfl)))⟩
    have b33 : E23 9 = .int .i64 0 := env_of st.inn hE 9 (by kernel_rfl)
    have b34 : E23 3 = .ptr p2 0 := env_of st.inn hE 3 (by kernel_rfl)
    have b35 : E23 4 = .ptr p6 0 := env_of st.inn hE 4 (by kernel_rfl)
    have b36 : E23 2 = .flt .f32 rad := env_of st.inn hE 2 (by kernel_rfl)
    have g37 : Grew H1 H23 := (st.kept.grew (Nat.le_of_ble_eq_true (by kernel_rfl)))
    have g38 : Grew H H23 := Grew.trans g13 g37
    have r39 := g37.at r4
    have r40 := g37.at r8
    clear st hE vs ls
    refine res_loop (by kernel_rfl) (fun z E H' => ∃ (i : Nat) (acc41_0 : AV), z + i = ms.length ∧ E 3 = .ptr p2 0 ∧ E 4 = .ptr p6 0 ∧ E 2 = .flt .f32 rad ∧ E 9 = .int .i64 (i : Int) ∧ E 8 = acc41_0 ∧ Grew H H' ∧ H'.get p2 = some (.row [.flt .f32 x, S] true) ∧ H'.get p6 = some (.row [.flt .f32 ya, .flt .f32 yb, .flt .f32 yc] true) ∧ SlF H' 9 (keepTo (farB [.flt .f32 ya, .flt .f32 yb, .flt .f32 yc] rad) ms i) acc41_0 ∧ FreshS H.next acc41_0 ∧ ApartL acc41_0 p2 ∧ ApartL acc41_0 p6) (ms.length) ⟨0, .slice p27 0 0 0 9, by omega, b34, b35, b36, b33, e28, g38, r39, r40, (.sl (by simpa [keepTo] using r29) rfl (Nat.le_refl _)), (FreshS.of_le op27), (ApartL.of (by first | assumption | exact Apart.symm (by assumption))), (ApartL.of (by first | assumption | exact Apart.symm (by assumption)))⟩ ?_
    rintro z41 Ei41 Hi41 ⟨i41, acc41_0, hz41, c41_3, c41_4, c41_2, ci41, ca41_0, gt41, r41_0, r41_1, s41_0, f41_0, ap41_0_0, ap41_0_1⟩
    have hln41_0 : ((keepTo (farB [.flt .f32 ya, .flt .f32 yb, .flt .f32 yc] rad) ms i41)).length ≤ i41 := keepTo_le (by omega)
    refine run_mn (φ := φ0) (pm := pmR 2 [(.len (.nd 1 .one), .nd 10 (.int .i64))] 0) 20 (nk := [(.atom 0, .flt .f32), (.atom 1, .one), (.atom 2, .flt .f32), (.atom 3, .flt .f32), (.atom 4, .flt .f32), (.atom 5, .flt .f32), (.atom 6, .bool), (.atom 7, .bool), (.atom 8, .int .i64), (.atom 9, .one), (.atom 10, .int .i64)]) (fs := []) (xs := [.flt .f32 x, S, .flt .f32 ya, .flt .f32 yb, .flt .f32 yc, .flt .f32 rad, .bool (okMap x ms), .bool (finV [.flt .f32 ya, .flt .f32 yb, .flt .f32 yc]), .int .i64 (i41 : Int), acc41_0, .int .i64 (ms.length : Int)]) (ws := [⟨p2, 0, [.nd 0 (.flt .f32), .nd 1 .one], false⟩, ⟨p6, 0, [.nd 2 (.flt .f32), .nd 3 (.flt .f32), .nd 4 (.flt .f32)], false⟩]) (env := [(3, .ptr 0 0), (4, .ptr 1 0), (2, .nd 5 (.flt .f32)), (9, .nd 8 (.int .i64)), (8, .nd 9 .one)]) ?_ ?_ tb_ok ap_ok ?_
    · refine midN_in ?_ .nil _ ?_ ?_ ?_
      · exact (.cons rfl ⟨_, rfl, hx⟩ (.cons rfl (slOne hS) (.cons rfl ⟨_, rfl, qa⟩ (.cons rfl ⟨_, rfl, qb⟩ (.cons rfl ⟨_, rfl, qc⟩ (.cons rfl ⟨_, rfl, hrad⟩ (.cons rfl ⟨_, rfl⟩ (.cons rfl ⟨_, rfl⟩ (.cons rfl ⟨_, rfl⟩ (.cons rfl s41_0.one (.cons rfl ⟨_, rfl⟩ .nil)))))))))))
      · exact (.cons (win_row r41_0 (dlCons (dNd rfl ⟨_, rfl, hx⟩) (dlCons (dNd rfl (slOne hS)) dlNil))) (.cons (win_row r41_1 (dlCons (dNd rfl ⟨_, rfl, qa⟩) (dlCons (dNd rfl ⟨_, rfl, qb⟩) (dlCons (dNd rfl ⟨_, rfl, qc⟩) dlNil)))) .nil))
      · exact sepOk_ro rfl
      · exact (.cons (⟨_, _, (dNd rfl (slOne hS)), (dNd rfl ⟨_, rfl⟩), slLen hS⟩) .nil)
    · exact (envEq c41_3 (dPtr (l := p2) (o := 0) rfl) (envEq c41_4 (dPtr (l := p6) (o := 0) rfl) (envEq c41_2 (dNd rfl ⟨_, rfl, hrad⟩) (envEq ci41 (dNd rfl ⟨_, rfl⟩) (envEq ca41_0 (dNd rfl s41_0.one) envNil)))))
    refine all2 (by kernel_rfl) ?_ ?_
    ·
      intro vs ls H42 E42 st hE
      have f43 : (i41 : Int) < (ms.length : Int) := of_decide_eq_true (bfact (x := decide ((i41 : Int) < (ms.length : Int))) st.inn 0 (by kernel_rfl))
      have b44 : E42 31 = S := env_of st.inn hE 31 (by kernel_rfl)
      have b45 : E42 32 = .int .i64 (i41 : Int) := env_of st.inn hE 32 (by kernel_rfl)
      have b46 : E42 4 = .ptr p6 0 := env_of st.inn hE 4 (by kernel_rfl)
      have b47 : E42 2 = .flt .f32 rad := env_of st.inn hE 2 (by kernel_rfl)
      have b48 : E42 8 = acc41_0 := env_of st.inn hE 8 (by kernel_rfl)
      have b49 : E42 3 = .ptr p2 0 := env_of st.inn hE 3 (by kernel_rfl)
      have b50 : E42 9 = .int .i64 (i41 : Int) := env_of st.inn hE 9 (by kernel_rfl)
      have g51 : Grew Hi41 H42 := (st.kept.grew (Nat.le_of_ble_eq_true (by kernel_rfl)))
      have g52 : Grew H H42 := Grew.trans gt41 g51
      have r53 := g51.at r41_0
      have r54 := g51.at r41_1
      have s55 := s41_0.grew g51
      clear st hE vs ls
      have hlt56 : i41 < ms.length := by omega
      obtain ⟨lS56, cap56, rest56, wr56, eS56, gB56⟩ := hS.isSl hlt56
      have gS56 := g52.at gB56
      have ne57 : Apart p2 lS56 := ⟨Nat.ne_of_gt (Nat.lt_of_lt_of_le (H.lt_of_get gB56) op2)⟩
      have ne58 : Apart p6 lS56 := ⟨Nat.ne_of_gt (Nat.lt_of_lt_of_le (H.lt_of_get gB56) op6)⟩
      obtain ⟨v56_0, v56_1, v56_2, v56_3, v56_4, v56_5, v56_6, v56_7, v56_8, hm56, ho56_3, ho56_4, ho56_5, ho56_6⟩ := partsMark (hr.get hlt56)
      have he56 : ms.getD i41 [] = [.int .i32 v56_0, .int .i32 v56_1, .int .i32 v56_2, .flt .f32 v56_3, .flt .f32 v56_4, .flt .f32 v56_5, .flt .f32 v56_6, .int .i64 v56_7, .int .i64 v56_8] := by rw [← hm56]; simp [List.getD_eq_getElem?_getD, hlt56]
      refine run_mn (φ := φ0) (pm := pmR 3 [(.ia 9 (.nd 1 .one) (.nd 8 (.int .i64)), .ptr 2 0), (.call 84 [.ptr 2 0, .agg [.nd 2 (.flt .f32), .nd 3 (.flt .f32), .nd 4 (.flt .f32)]], .nd 20 (.flt .f32))] 0) 20 (nk := [(.atom 0, .flt .f32), (.atom 1, .one), (.atom 2, .flt .f32), (.atom 3, .flt .f32), (.atom 4, .flt .f32), (.atom 5, .flt .f32), (.atom 6, .bool), (.atom 7, .bool), (.atom 8, .int .i64), (.atom 9, .one), (.atom 10, .int .i64), (.atom 11, .int .i32), (.atom 12, .int .i32), (.atom 13, .int .i32), (.atom 14, .flt .f32), (.atom 15, .flt .f32), (.atom 16, .flt .f32), (.atom 17, .flt .f32), (.atom 18, .int .i64), (.atom 19, .int .i64), (.atom 20, .flt .f32)]) (fs := []) (xs := [.flt .f32 x, S, .flt .f32 ya, .flt .f32 yb, .flt .f32 yc, .flt .f32 rad, .bool (okMap x ms), .bool (finV [.flt .f32 ya, .flt .f32 yb, .flt .f32 yc]), .int .i64 (i41 : Int), acc41_0, .int .i64 (ms.length : Int), .int .i32 v56_0, .int .i32 v56_1, .int .i32 v56_2, .flt .f32 v56_3, .flt .f32 v56_4, .flt .f32 v56_5, .flt .f32 v56_6, .int .i64 v56_7, .int .i64 v56_8, .flt .f32 (awayF [.flt .f32 ya, .flt .f32 yb, .flt .f32 yc] [.int .i32 v56_0, .int .i32 v56_1, .int .i32 v56_2, .flt .f32 v56_3, .flt .f32 v56_4, .flt .f32 v56_5, .flt .f32 v56_6, .int .i64 v56_7, .int .i64 v56_8])]) (ws := [⟨p2, 0, [.nd 0 (.flt .f32), .nd 1 .one], false⟩, ⟨p6, 0, [.nd 2 (.flt .f32), .nd 3 (.flt .f32), .nd 4 (.flt .f32)], false⟩, ⟨lS56, (i41 * 9), [.nd 11 (.int .i32), .nd 12 (.int .i32), .nd 13 (.int .i32), .nd 14 (.flt .f32), .nd 15 (.flt .f32), .nd 16 (.flt .f32), .nd 17 (.flt .f32), .nd 18 (.int .i64), .nd 19 (.int .i64)], false⟩]) (env := [(31, .nd 1 .one), (32, .nd 8 (.int .i64)), (4, .ptr 1 0), (2, .nd 5 (.flt .f32)), (8, .nd 9 .one), (3, .ptr 0 0), (9, .nd 8 (.int .i64))]) ?_ ?_ tb_ok ap_ok ?_
      · refine midN_in ?_ .nil _ ?_ ?_ ?_
        · exact (.cons rfl ⟨_, rfl, hx⟩ (.cons rfl (slOne hS) (.cons rfl ⟨_, rfl, qa⟩ (.cons rfl ⟨_, rfl, qb⟩ (.cons rfl ⟨_, rfl, qc⟩ (.cons rfl ⟨_, rfl, hrad⟩ (.cons rfl ⟨_, rfl⟩ (.cons rfl ⟨_, rfl⟩ (.cons rfl ⟨_, rfl⟩ (.cons rfl s41_0.one (.cons rfl ⟨_, rfl⟩ (.cons rfl ⟨_, rfl⟩ (.cons rfl ⟨_, rfl⟩ (.cons rfl ⟨_, rfl⟩ (.cons rfl ⟨_, rfl, ho56_3⟩ (.cons rfl ⟨_, rfl, ho56_4⟩ (.cons rfl ⟨_, rfl, ho56_5⟩ (.cons rfl ⟨_, rfl, ho56_6⟩ (.cons rfl ⟨_, rfl⟩ (.cons rfl ⟨_, rfl⟩ (.cons rfl ⟨_, rfl, awayF_ok _ _⟩ .nil)))))))))))))))))))))
        · exact (.cons (win_row r53 (dlCons (dNd rfl ⟨_, rfl, hx⟩) (dlCons (dNd rfl (slOne hS)) dlNil))) (.cons (win_row r54 (dlCons (dNd rfl ⟨_, rfl, qa⟩) (dlCons (dNd rfl ⟨_, rfl, qb⟩) (dlCons (dNd rfl ⟨_, rfl, qc⟩) dlNil)))) (.cons (win_elem hr gS56 hlt56 rfl (by rw [hm56]; exact (dlCons (dNd rfl ⟨_, rfl⟩) (dlCons (dNd rfl ⟨_, rfl⟩) (dlCons (dNd rfl ⟨_, rfl⟩) (dlCons (dNd rfl ⟨_, rfl, ho56_3⟩) (dlCons (dNd rfl ⟨_, rfl, ho56_4⟩) (dlCons (dNd rfl ⟨_, rfl, ho56_5⟩) (dlCons (dNd rfl ⟨_, rfl, ho56_6⟩) (dlCons (dNd rfl ⟨_, rfl⟩) (dlCons (dNd rfl ⟨_, rfl⟩) dlNil))))))))))) .nil)))
        · exact sepOk_ro rfl
        · exact (.cons (rule_iaS (k := i41) (dNd rfl (slOne hS)) eS56 (dNd rfl ⟨_, rfl⟩) hlt56 rfl) (.cons (rule_call (args := [.ptr lS56 ((i41 * 9) + 0), .agg [.flt .f32 ya, .flt .f32 yb, .flt .f32 yc]]) (dlCons (dPtr (l := lS56) (o := (i41 * 9)) rfl) (dlCons (dAgg (dlCons (dNd rfl ⟨_, rfl, qa⟩) (dlCons (dNd rfl ⟨_, rfl, qb⟩) (dlCons (dNd rfl ⟨_, rfl, qc⟩) dlNil)))) dlNil)) (dNd rfl ⟨_, rfl, awayF_ok _ _⟩) (fun H9 hk => (by obtain ⟨pre, post, g1, g2⟩ := flat_split hr.len hlt56 rest56; exact k_l05Away [.int .i32 v56_0, .int .i32 v56_1, .int .i32 v56_2, .flt .f32 v56_3, .flt .f32 v56_4, .flt .f32 v56_5, .flt .f32 v56_6, .int .i64 v56_7, .int .i64 v56_8] [.flt .f32 ya, .flt .f32 yb, .flt .f32 yc] (.cons ⟨_, rfl⟩ (.cons ⟨_, rfl⟩ (.cons ⟨_, rfl⟩ (.cons ⟨_, rfl, ho56_3⟩ (.cons ⟨_, rfl, ho56_4⟩ (.cons ⟨_, rfl, ho56_5⟩ (.cons ⟨_, rfl, ho56_6⟩ (.cons ⟨_, rfl⟩ (.cons ⟨_, rfl⟩ .nil))))))))) (.cons ⟨_, rfl, qa⟩ (.cons ⟨_, rfl, qb⟩ (.cons ⟨_, rfl, qc⟩ .nil))) (by rw [((hk.grew (Nat.le_refl _)).at gS56), g1, hm56]) g2))) .nil))
      · exact (envEq b44 (dNd rfl (slOne hS)) (envEq b45 (dNd rfl ⟨_, rfl⟩) (envEq b46 (dPtr (l := p6) (o := 0) rfl) (envEq b47 (dNd rfl ⟨_, rfl, hrad⟩) (envEq b48 (dNd rfl s41_0.one) (envEq b49 (dPtr (l := p2) (o := 0) rfl) (envEq b50 (dNd rfl ⟨_, rfl⟩) envNil)))))))
      refine all2 (by kernel_rfl) ?_ ?_
      ·
        intro vs ls H59 E59 st hE
        have f60 : (ford .f32 (awayF [.flt .f32 ya, .flt .f32 yb, .flt .f32 yc] [.int .i32 v56_0, .int .i32 v56_1, .int .i32 v56_2, .flt .f32 v56_3, .flt .f32 v56_4, .flt .f32 v56_5, .flt .f32 v56_6, .int .i64 v56_7, .int .i64 v56_8]) rad == some .lt || ford .f32 (awayF [.flt .f32 ya, .flt .f32 yb, .flt .f32 yc] [.int .i32 v56_0, .int .i32 v56_1, .int .i32 v56_2, .flt .f32 v56_3, .flt .f32 v56_4, .flt .f32 v56_5, .flt .f32 v56_6, .int .i64 v56_7, .int .i64 v56_8]) rad == some .eq) = true := bfact st.inn 0 (by kernel_rfl)
        obtain ⟨p61, e62, r63, n64⟩ := sl_of st.inn hE 44 3 1 1 9 (by kernel_rfl) (ds := [.int .i32 v56_0, .int .i32 v56_1, .int .i32 v56_2, .flt .f32 v56_3, .flt .f32 v56_4, .flt .f32 v56_5, .flt .f32 v56_6, .int .i64 v56_7, .int .i64 v56_8]) (by kernel_rfl)
        have op61 : H.next ≤ p61 := Nat.le_trans g52.next (n64 (Nat.le_of_ble_eq_true rfl))
        have ne65 : Apart p61 p2 := ⟨Nat.ne_of_gt (Nat.lt_of_lt_of_le (H42.lt_of_get r53) (n64 (Nat.le_of_ble_eq_true rfl)))⟩
        have ne66 : Apart p61 p6 := ⟨Nat.ne_of_gt (Nat.lt_of_lt_of_le (H42.lt_of_get r54) (n64 (Nat.le_of_ble_eq_true rfl)))⟩
        have ne67 : ApartL (acc41_0) p61 := s55.apart_new (n64 (Nat.le_of_ble_eq_true rfl))
        have b68 : E59 38 = acc41_0 := env_of st.inn hE 38 (by kernel_rfl)
        have b69 : E59 9 = .int .i64 (i41 : Int) := env_of st.inn hE 9 (by kernel_rfl)
        have b70 : E59 3 = .ptr p2 0 := env_of st.inn hE 3 (by kernel_rfl)
        have b71 : E59 4 = .ptr p6 0 := env_of st.inn hE 4 (by kernel_rfl)
        have b72 : E59 2 = .flt .f32 rad := env_of st.inn hE 2 (by kernel_rfl)
        have b73 : E59 8 = acc41_0 := env_of st.inn hE 8 (by kernel_rfl)
        have g74 : Grew H42 H59 := (st.kept.grew (Nat.le_of_ble_eq_true (by kernel_rfl)))
        have g75 : Grew H H59 := Grew.trans g52 g74
        have r76 := g74.at r53
        have r77 := g74.at r54
        have s79 := s55.grew g74
        clear st hE vs ls
        refine res_append (d := (some 45)) (sz := 9) (bytes := 48) (x := .tmp 38) (y := .tmp 44) (by kernel_rfl) (S := acc41_0) (ms := (keepTo (farB [.flt .f32 ya, .flt .f32 yb, .flt .f32 yc] rad) ms i41)) (ys := [[.int .i32 v56_0, .int .i32 v56_1, .int .i32 v56_2, .flt .f32 v56_3, .flt .f32 v56_4, .flt .f32 v56_5, .flt .f32 v56_6, .int .i64 v56_7, .int .i64 v56_8]]) (by show E59 38 = _; exact b68) s79 (keepTo_recs hr i41).len (by show srcCells _ _ (E59 44) = _; rw [e62]; exact src_one r63 rfl) (recs_one (ks := KM) (Recs.one (ks := KM) (.cons ⟨_, rfl⟩ (.cons ⟨_, rfl⟩ (.cons ⟨_, rfl⟩ (.cons ⟨_, rfl, ho56_3⟩ (.cons ⟨_, rfl, ho56_4⟩ (.cons ⟨_, rfl, ho56_5⟩ (.cons ⟨_, rfl, ho56_6⟩ (.cons ⟨_, rfl⟩ (.cons ⟨_, rfl⟩ .nil)))))))))) rfl) (by show (2 * ((keepTo (farB [.flt .f32 ya, .flt .f32 yb, .flt .f32 yc] rad) ms i41).length + 1) + 192) * 48 ≤ 281474976710656; omega) ?_
        intro S80 H81 sS80 fS80 oS80
        have ne82 : ApartL (S80) p2 := fS80.apartL (H59.lt_of_get r76) (by assumption)
        have ne83 : ApartL (S80) p6 := fS80.apartL (H59.lt_of_get r77) (by assumption)
        have ne84 : ApartL (S80) p61 := fS80.apartL (H59.lt_of_get r63) (by assumption)
        have fr85 : FreshS H.next (S80) := fS80.fresh f41_0 g75.next
        have g86 : Grew H H81 := OnlyS.own g75 f41_0 oS80
        have r87 := oS80.at r76 (by assumption)
        have r88 := oS80.at r77 (by assumption)
        have r89 := oS80.at r63 (by assumption)
        refine run_mn (φ := φ0) (pm := pmR 3 [] 0) 20 (nk := [(.atom 0, .flt .f32), (.atom 1, .one), (.atom 2, .flt .f32), (.atom 3, .flt .f32), (.atom 4, .flt .f32), (.atom 5, .flt .f32), (.atom 6, .bool), (.atom 7, .bool), (.atom 8, .int .i64), (.atom 9, .one), (.atom 10, .int .i64), (.atom 11, .int .i32), (.atom 12, .int .i32), (.atom 13, .int .i32), (.atom 14, .flt .f32), (.atom 15, .flt .f32), (.atom 16, .flt .f32), (.atom 17, .flt .f32), (.atom 18, .int .i64), (.atom 19, .int .i64), (.atom 20, .flt .f32), (.atom 21, .one)]) (fs := []) (xs := [.flt .f32 x, S, .flt .f32 ya, .flt .f32 yb, .flt .f32 yc, .flt .f32 rad, .bool (okMap x ms), .bool (finV [.flt .f32 ya, .flt .f32 yb, .flt .f32 yc]), .int .i64 (i41 : Int), acc41_0, .int .i64 (ms.length : Int), .int .i32 v56_0, .int .i32 v56_1, .int .i32 v56_2, .flt .f32 v56_3, .flt .f32 v56_4, .flt .f32 v56_5, .flt .f32 v56_6, .int .i64 v56_7, .int .i64 v56_8, .flt .f32 (awayF [.flt .f32 ya, .flt .f32 yb, .flt .f32 yc] [.int .i32 v56_0, .int .i32 v56_1, .int .i32 v56_2, .flt .f32 v56_3, .flt .f32 v56_4, .flt .f32 v56_5, .flt .f32 v56_6, .int .i64 v56_7, .int .i64 v56_8]), S80]) (ws := [⟨p2, 0, [.nd 0 (.flt .f32), .nd 1 .one], false⟩, ⟨p6, 0, [.nd 2 (.flt .f32), .nd 3 (.flt .f32), .nd 4 (.flt .f32)], false⟩, ⟨p61, 0, [.nd 11 (.int .i32), .nd 12 (.int .i32), .nd 13 (.int .i32), .nd 14 (.flt .f32), .nd 15 (.flt .f32), .nd 16 (.flt .f32), .nd 17 (.flt .f32), .nd 18 (.int .i64), .nd 19 (.int .i64)], false⟩]) (env := [(38, .nd 9 .one), (44, .sl 2 0 1 1 9), (9, .nd 8 (.int .i64)), (3, .ptr 0 0), (4, .ptr 1 0), (2, .nd 5 (.flt .f32)), (8, .nd 9 .one), (45, .nd 21 .one)]) ?_ ?_ tb_ok ap_ok ?_
        · refine midN_in ?_ .nil _ ?_ ?_ ?_
          · exact (.cons rfl ⟨_, rfl, hx⟩ (.cons rfl (slOne hS) (.cons rfl ⟨_, rfl, qa⟩ (.cons rfl ⟨_, rfl, qb⟩ (.cons rfl ⟨_, rfl, qc⟩ (.cons rfl ⟨_, rfl, hrad⟩ (.cons rfl ⟨_, rfl⟩ (.cons rfl ⟨_, rfl⟩ (.cons rfl ⟨_, rfl⟩ (.cons rfl s41_0.one (.cons rfl ⟨_, rfl⟩ (.cons rfl ⟨_, rfl⟩ (.cons rfl ⟨_, rfl⟩ (.cons rfl ⟨_, rfl⟩ (.cons rfl ⟨_, rfl, ho56_3⟩ (.cons rfl ⟨_, rfl, ho56_4⟩ (.cons rfl ⟨_, rfl, ho56_5⟩ (.cons rfl ⟨_, rfl, ho56_6⟩ (.cons rfl ⟨_, rfl⟩ (.cons rfl ⟨_, rfl⟩ (.cons rfl ⟨_, rfl, awayF_ok _ _⟩ (.cons rfl sS80.one .nil))))))))))))))))))))))
          · exact (.cons (win_row r87 (dlCons (dNd rfl ⟨_, rfl, hx⟩) (dlCons (dNd rfl (slOne hS)) dlNil))) (.cons (win_row r88 (dlCons (dNd rfl ⟨_, rfl, qa⟩) (dlCons (dNd rfl ⟨_, rfl, qb⟩) (dlCons (dNd rfl ⟨_, rfl, qc⟩) dlNil)))) (.cons (win_row r89 (dlCons (dNd rfl ⟨_, rfl⟩) (dlCons (dNd rfl ⟨_, rfl⟩) (dlCons (dNd rfl ⟨_, rfl⟩) (dlCons (dNd rfl ⟨_, rfl, ho56_3⟩) (dlCons (dNd rfl ⟨_, rfl, ho56_4⟩) (dlCons (dNd rfl ⟨_, rfl, ho56_5⟩) (dlCons (dNd rfl ⟨_, rfl, ho56_6⟩) (dlCons (dNd rfl ⟨_, rfl⟩) (dlCons (dNd rfl ⟨_, rfl⟩) dlNil)))))))))) .nil)))
          · exact sepOk_ro rfl
          · exact .nil
        · exact (envEq (put_ne rfl b68) (dNd rfl s41_0.one) (envEq (put_ne rfl e62) (dSl' (l := p61) (o := 0) rfl) (envEq (put_ne rfl b69) (dNd rfl ⟨_, rfl⟩) (envEq (put_ne rfl b70) (dPtr (l := p2) (o := 0) rfl) (envEq (put_ne rfl b71) (dPtr (l := p6) (o := 0) rfl) (envEq (put_ne rfl b72) (dNd rfl ⟨_, rfl, hrad⟩) (envEq (put_ne rfl b73) (dNd rfl s41_0.one) (envEq put_same (dNd rfl sS80.one) envNil))))))))
        refine all1 (by kernel_rfl) ?_
        intro vs ls H90 E90 st hE
        obtain ⟨w91, hw91⟩ : ∃ z, z = (IntKind.wrap .i64 ((i41 : Int) + 1)) := ⟨_, rfl⟩
        have b92 : E90 9 = .int .i64 w91 := by rw [hw91]; exact env_of st.inn hE 9 (by kernel_rfl)
        have b93 : E90 3 = .ptr p2 0 := env_of st.inn hE 3 (by kernel_rfl)
        have b94 : E90 4 = .ptr p6 0 := env_of st.inn hE 4 (by kernel_rfl)
        have b95 : E90 2 = .flt .f32 rad := env_of st.inn hE 2 (by kernel_rfl)
        have b96 : E90 8 = S80 := env_of st.inn hE 8 (by kernel_rfl)
        have g97 : Grew H81 H90 := (st.kept.grew (Nat.le_of_ble_eq_true (by kernel_rfl)))
        have g98 : Grew H H90 := Grew.trans g86 g97
        have r99 := g97.at r87
        have r100 := g97.at r88
        have r101 := g97.at r89
        have s102 := sS80.grew g97
        clear st hE vs ls
        have hz9 : z41 - 1 < z41 := by omega
        have hy9 : z41 - 1 + (i41 + 1) = ms.length := by omega
        have hi9 : E90 9 = .int .i64 ((i41 + 1 : Nat) : Int) := by rw [b92, hw91, wrap64 (by omega)]
        have hs9 : keepTo (farB [.flt .f32 ya, .flt .f32 yb, .flt .f32 yc] rad) ms (i41 + 1) = ((keepTo (farB [.flt .f32 ya, .flt .f32 yb, .flt .f32 yc] rad) ms i41) ++ [[.int .i32 v56_0, .int .i32 v56_1, .int .i32 v56_2, .flt .f32 v56_3, .flt .f32 v56_4, .flt .f32 v56_5, .flt .f32 v56_6, .int .i64 v56_7, .int .i64 v56_8]]) := by
          rw [keepTo_succ hlt56, hm56, if_neg (far_keep f60)]
        exact res_norm (by kernel_rfl) ⟨z41 - 1, hz9, i41 + 1, S80, hy9, b93, b94, b95, hi9, b96, g98, r99, r100, (by rw [hs9]; exact s102), fr85, (by assumption), (by assumption)⟩
      ·
        intro vs ls H103 E103 st hE
        have f104 : (ford .f32 (awayF [.flt .f32 ya, .flt .f32 yb, .flt .f32 yc] [.int .i32 v56_0, .int .i32 v56_1, .int .i32 v56_2, .flt .f32 v56_3, .flt .f32 v56_4, .flt .f32 v56_5, .flt .f32 v56_6, .int .i64 v56_7, .int .i64 v56_8]) rad == some .lt || ford .f32 (awayF [.flt .f32 ya, .flt .f32 yb, .flt .f32 yc] [.int .i32 v56_0, .int .i32 v56_1, .int .i32 v56_2, .flt .f32 v56_3, .flt .f32 v56_4, .flt .f32 v56_5, .flt .f32 v56_6, .int .i64 v56_7, .int .i64 v56_8]) rad == some .eq) = false := bfact st.inn 0 (by kernel_rfl)
        obtain ⟨w105, hw105⟩ : ∃ z, z = (IntKind.wrap .i64 ((i41 : Int) + 1)) := ⟨_, rfl⟩
        have b106 : E103 9 = .int .i64 w105 := by rw [hw105]; exact env_of st.inn hE 9 (by kernel_rfl)
        have b107 : E103 3 = .ptr p2 0 := env_of st.inn hE 3 (by kernel_rfl)
        have b108 : E103 4 = .ptr p6 0 := env_of st.inn hE 4 (by kernel_rfl)
        have b109 : E103 2 = .flt .f32 rad := env_of st.inn hE 2 (by kernel_rfl)
        have b110 : E103 8 = acc41_0 := env_of st.inn hE 8 (by kernel_rfl)
        have g111 : Grew H42 H103 := (st.kept.grew (Nat.le_of_ble_eq_true (by kernel_rfl)))
        have g112 : Grew H H103 := Grew.trans g52 g111
        have r113 := g111.at r53
        have r114 := g111.at r54
        have s116 := s55.grew g111
        clear st hE vs ls
        have hz9 : z41 - 1 < z41 := by omega
        have hy9 : z41 - 1 + (i41 + 1) = ms.length := by omega
        have hi9 : E103 9 = .int .i64 ((i41 + 1 : Nat) : Int) := by rw [b106, hw105, wrap64 (by omega)]
        have hs9 : keepTo (farB [.flt .f32 ya, .flt .f32 yb, .flt .f32 yc] rad) ms (i41 + 1) = (keepTo (farB [.flt .f32 ya, .flt .f32 yb, .flt .f32 yc] rad) ms i41) := by
          rw [keepTo_succ hlt56, hm56, if_pos (far_drop f104), List.append_nil]
        exact res_norm (by kernel_rfl) ⟨z41 - 1, hz9, i41 + 1, acc41_0, hy9, b107, b108, b109, hi9, b110, g112, r113, r114, (by rw [hs9]; exact s116), f41_0, (by assumption), (by assumption)⟩
    ·
      intro vs ls H117 E117 st hE
      have f118 : ¬ ((i41 : Int) < (ms.length : Int)) := of_decide_eq_false (bfact (x := decide ((i41 : Int) < (ms.length : Int))) st.inn 0 (by kernel_rfl))
      have b119 : E117 9 = .int .i64 (i41 : Int) := env_of st.inn hE 9 (by kernel_rfl)
      have b120 : E117 3 = .ptr p2 0 := env_of st.inn hE 3 (by kernel_rfl)
      have b121 : E117 24 = .ptr p2 1 := env_of st.inn hE 24 (by kernel_rfl)
      have b122 : E117 25 = S := env_of st.inn hE 25 (by kernel_rfl)
      have b123 : E117 23 = .int .i64 (i41 : Int) := env_of st.inn hE 23 (by kernel_rfl)
      have b124 : E117 26 = .int .i64 (ms.length : Int) := env_of st.inn hE 26 (by kernel_rfl)
      obtain ⟨w125, hw125⟩ : ∃ z, z = (decide ((i41 : Int) < (ms.length : Int))) := ⟨_, rfl⟩
      have b126 : E117 27 = .bool w125 := by rw [hw125]; exact env_of st.inn hE 27 (by kernel_rfl)
      have b127 : E117 4 = .ptr p6 0 := env_of st.inn hE 4 (by kernel_rfl)
      have b128 : E117 2 = .flt .f32 rad := env_of st.inn hE 2 (by kernel_rfl)
      have b129 : E117 8 = acc41_0 := env_of st.inn hE 8 (by kernel_rfl)
      have g130 : Grew Hi41 H117 := (st.kept.grew (Nat.le_of_ble_eq_true (by kernel_rfl)))
      have g131 : Grew H H117 := Grew.trans gt41 g130
      have r132 := g130.at r41_0
      have r133 := g130.at r41_1
      have s134 := s41_0.grew g130
      clear st hE vs ls
      refine res_exit (id := 0) (by kernel_rfl) ?_
      refine run_mn (φ := φ0) (pm := pmR 2 [] 0) 20 (nk := [(.atom 0, .flt .f32), (.atom 1, .one), (.atom 2, .flt .f32), (.atom 3, .flt .f32), (.atom 4, .flt .f32), (.atom 5, .flt .f32), (.atom 6, .bool), (.atom 7, .bool), (.atom 8, .int .i64), (.atom 9, .one), (.atom 10, .int .i64), (.atom 11, .bool)]) (fs := []) (xs := [.flt .f32 x, S, .flt .f32 ya, .flt .f32 yb, .flt .f32 yc, .flt .f32 rad, .bool (okMap x ms), .bool (finV [.flt .f32 ya, .flt .f32 yb, .flt .f32 yc]), .int .i64 (i41 : Int), acc41_0, .int .i64 (ms.length : Int), .bool w125]) (ws := [⟨p2, 0, [.nd 0 (.flt .f32), .nd 1 .one], false⟩, ⟨p6, 0, [.nd 2 (.flt .f32), .nd 3 (.flt .f32), .nd 4 (.flt .f32)], false⟩]) (env := [(9, .nd 8 (.int .i64)), (3, .ptr 0 0), (24, .ptr 0 1), (25, .nd 1 .one), (23, .nd 8 (.int .i64)), (26, .nd 10 (.int .i64)), (27, .nd 11 .bool), (4, .ptr 1 0), (2, .nd 5 (.flt .f32)), (8, .nd 9 .one)]) ?_ ?_ tb_ok ap_ok ?_
      · refine midN_in ?_ .nil _ ?_ ?_ ?_
        · exact (.cons rfl ⟨_, rfl, hx⟩ (.cons rfl (slOne hS) (.cons rfl ⟨_, rfl, qa⟩ (.cons rfl ⟨_, rfl, qb⟩ (.cons rfl ⟨_, rfl, qc⟩ (.cons rfl ⟨_, rfl, hrad⟩ (.cons rfl ⟨_, rfl⟩ (.cons rfl ⟨_, rfl⟩ (.cons rfl ⟨_, rfl⟩ (.cons rfl s41_0.one (.cons rfl ⟨_, rfl⟩ (.cons rfl ⟨_, rfl⟩ .nil))))))))))))
        · exact (.cons (win_row r132 (dlCons (dNd rfl ⟨_, rfl, hx⟩) (dlCons (dNd rfl (slOne hS)) dlNil))) (.cons (win_row r133 (dlCons (dNd rfl ⟨_, rfl, qa⟩) (dlCons (dNd rfl ⟨_, rfl, qb⟩) (dlCons (dNd rfl ⟨_, rfl, qc⟩) dlNil)))) .nil))
        · exact sepOk_ro rfl
        · exact .nil
      · exact (envEq b119 (dNd rfl ⟨_, rfl⟩) (envEq b120 (dPtr (l := p2) (o := 0) rfl) (envEq b121 (dPtr (l := p2) (o := 0) rfl) (envEq b122 (dNd rfl (slOne hS)) (envEq b123 (dNd rfl ⟨_, rfl⟩) (envEq b124 (dNd rfl ⟨_, rfl⟩) (envEq b126 (dNd rfl ⟨_, rfl⟩) (envEq b127 (dPtr (l := p6) (o := 0) rfl) (envEq b128 (dNd rfl ⟨_, rfl, hrad⟩) (envEq b129 (dNd rfl s41_0.one) envNil))))))))))
      refine all1 (by kernel_rfl) ?_
      intro vs ls H135 E135 st hE
      have gz : Grew H H135 := (Grew.trans g131 (st.kept.grew (Nat.le_of_ble_eq_true (by kernel_rfl))))
      have hc : withinV x ms [.flt .f32 ya, .flt .f32 yb, .flt .f32 yc] rad = (ms.filter (fun m => !farB [.flt .f32 ya, .flt .f32 yb, .flt .f32 yc] rad m), 0) := by
        unfold withinV
        rw [f26, if_neg (by decide), if_pos ⟨f25, f24⟩]
      exact res_ex (by kernel_rfl) (end_same st.inn hE (.inr rfl) (a := .tuple [acc41_0, .int .i64 0]) (by kernel_rfl) gz.next (by rw [hc]; exact ⟨gz, _, rfl, (by rw [show ms.filter (fun m => !farB [.flt .f32 ya, .flt .f32 yb, .flt .f32 yc] rad m) = (keepTo (farB [.flt .f32 ya, .flt .f32 yb, .flt .f32 yc] rad) ms i41) from (by rw [show i41 = ms.length by omega, keepTo_full])]; exact ((s134.grew (st.inn.kept.grew (Nat.le_refl _)))).toW), f41_0⟩))
end Go.Proofs.Ytgjhjemmddojfaa
