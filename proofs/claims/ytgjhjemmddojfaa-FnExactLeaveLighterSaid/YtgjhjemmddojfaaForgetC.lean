/- Contracts: ForgetBefore and LeaveLighter, by both. -/
import Derived.Test.YtgjhjemmddojfaaForgetB
set_option linter.unusedVariables false
set_option linter.unusedSimpArgs false
namespace Go.Proofs.Ytgjhjemmddojfaa
open Go.Ab
set_option maxRecDepth 100000
set_option maxHeartbeats 1000000
attribute [local irreducible] Res
open Classical in
noncomputable def forgetV (x : Option Nat) (ms : List (List AV)) (t : Int) : Option Nat × List (List AV) × Int :=
  if okMap x ms = false then (some 0, [], 1) else if 0 ≤ t ∧ t ≤ 1000000000 then (x, ms.filter (fun m => !lastLt t m), 0) else (some 0, [], 2)
open Classical in
noncomputable def lighterV (x : Option Nat) (ms : List (List AV)) (w : Option Nat) : Option Nat × List (List AV) × Int :=
  if okMap x ms = false then (some 0, [], 1) else if (ford .f32 w w == some .eq) = false then (some 0, [], 2) else (x, ms.filter (fun m => !lightB w m), 0)
theorem k_impl_ForgetBefore (H : AHeap) (x : Option Nat) (hx : fOk .f32 x) (ms : List (List AV)) (hr : Recs KM ms) (S : AV) (hS : SlL H 9 ms S) (mxms : ms.length ≤ 1048576) (t : Int) : ACalls Try.prog 43 [.agg [.flt .f32 x, S], .int .i64 t] H fun r H' => Grew H H' ∧ ∃ S', r = .tuple [.agg [.flt .f32 (forgetV x ms t).1, S'], .int .i64 (forgetV x ms t).2.2] ∧ SlW H' 9 (forgetV x ms t).2.1 S' ∧ FreshS H.next S' := by
  refine res_start h_impl_ForgetBefore (by simp) ?_
  refine run_mn (φ := φ0) (pm := pmR 0 [(.call 35 [.agg [.nd 0 (.flt .f32), .nd 1 .one]], .nd 3 .bool)] 0) 20 (nk := [(.atom 0, .flt .f32), (.atom 1, .one), (.atom 2, .int .i64), (.atom 3, .bool)]) (fs := []) (xs := [.flt .f32 x, S, .int .i64 t, .bool (okMap x ms)]) (ws := []) (env := [(0, .agg [.nd 0 (.flt .f32), .nd 1 .one]), (1, .nd 2 (.int .i64))]) ?_ ?_ tb_ok ap_ok ?_
  · refine midN_in ?_ .nil _ ?_ ?_ ?_
    · exact (.cons rfl ⟨_, rfl, hx⟩ (.cons rfl (slOne hS) (.cons rfl ⟨_, rfl⟩ (.cons rfl ⟨_, rfl⟩ .nil))))
    · exact .nil
    · exact sepOk_ro rfl
    · exact (.cons (rule_call (args := [.agg [.flt .f32 x, S]]) (dlCons (dAgg (dlCons (dNd rfl ⟨_, rfl, hx⟩) (dlCons (dNd rfl (slOne hS)) dlNil))) dlNil) (dNd rfl ⟨_, rfl⟩) (fun H9 hk => k_impl_ValidMap H9 x hx S ms hr (hS.grew (Grew.trans (Grew.refl _) (hk.grew (Nat.le_refl _)))) (mx40 mxms))) .nil)
  · exact (envEq rfl (dAgg (dlCons (dNd rfl ⟨_, rfl, hx⟩) (dlCons (dNd rfl (slOne hS)) dlNil))) (envEq rfl (dNd rfl ⟨_, rfl⟩) envNil))
  refine all4 (by kernel_rfl) ?_ ?_ ?_ ?_
  ·
    intro vs ls H1 E1 st hE
    have f2 : (okMap x ms) = false := bfact st.inn 0 (by kernel_rfl)
    have gz : Grew H H1 := (Grew.trans (Grew.refl _) (st.kept.grew (Nat.le_of_ble_eq_true (by kernel_rfl))))
    have hc : forgetV x ms t = ((some 0), [], 1) := by
      unfold forgetV
      rw [f2]; first | rfl | (rw [if_neg (by decide), if_pos (by omega)]) | (rw [if_neg (by decide), if_neg (by omega)])
    exact res_ex (by kernel_rfl) (end_same st.inn hE (.inr rfl) (a := .tuple [.agg [.flt .f32 (some 0), .nilslice], .int .i64 1]) (by kernel_rfl) gz.next (by rw [hc]; exact ⟨gz, _, rfl, (.nil rfl), FreshS.nil⟩))
  ·
    intro vs ls H3 E3 st hE
    have f4 : 1000000000 < t := of_decide_eq_true (bfact (x := decide (1000000000 < t)) st.inn 0 (by kernel_rfl))
    have f5 : ¬ (t < 0) := of_decide_eq_false (bfact (x := decide (t < 0)) st.inn 1 (by kernel_rfl))
    have f6 : (okMap x ms) = true := bfact st.inn 2 (by kernel_rfl)
    have gz : Grew H H3 := (Grew.trans (Grew.refl _) (st.kept.grew (Nat.le_of_ble_eq_true (by kernel_rfl))))
    have hc : forgetV x ms t = ((some 0), [], 2) := by
      unfold forgetV
      rw [f6]; first | rfl | (rw [if_neg (by decide), if_pos (by omega)]) | (rw [if_neg (by decide), if_neg (by omega)])
    exact res_ex (by kernel_rfl) (end_same st.inn hE (.inr rfl) (a := .tuple [.agg [.flt .f32 (some 0), .nilslice], .int .i64 2]) (by kernel_rfl) gz.next (by rw [hc]; exact ⟨gz, _, rfl, (.nil rfl), FreshS.nil⟩))
  ·
    intro vs ls H7 E7 st hE
    have f8 : ¬ (1000000000 < t) := of_decide_eq_false (bfact (x := decide (1000000000 < t)) st.inn 0 (by kernel_rfl))
    have f9 : ¬ (t < 0) := of_decide_eq_false (bfact (x := decide (t < 0)) st.inn 1 (by kernel_rfl))
    have f10 : (okMap x ms) = true := bfact st.inn 2 (by kernel_rfl)
    obtain ⟨p11, e12, r13, n14⟩ := ptr_of st.inn hE 4 2 (by kernel_rfl) (ds := [.flt .f32 (some 0), .nilslice]) (by kernel_rfl)
    have op11 : H.next ≤ p11 := Nat.le_trans (Nat.le_refl _) (n14 (Nat.le_of_ble_eq_true rfl))
    obtain ⟨p15, e16, r17, n18⟩ := ptr_of st.inn hE 3 1 (by kernel_rfl) (ds := [.int .i64 t]) (by kernel_rfl)
    have op15 : H.next ≤ p15 := Nat.le_trans (Nat.le_refl _) (n18 (Nat.le_of_ble_eq_true rfl))
    have ne19 : Apart p11 p15 := ⟨ptr_ne st.inn hE 4 2 3 1 (by kernel_rfl) (by kernel_rfl) (cs := [.lit (.flt .f32 (some 0)), .lit .nilslice]) (by kernel_rfl) (by decide) e12 e16⟩
    have b20 : E7 16 = .agg [.flt .f32 x, S] := env_of st.inn hE 16 (by kernel_rfl)
    have b21 : E7 17 = .func 80 [] [.ptr p15 0] := fn_of1 (j := 1) st.inn hE 17 (by kernel_rfl) 3 (by kernel_rfl) e16
    have g22 : Grew H H7 := (st.kept.grew (Nat.le_of_ble_eq_true (by kernel_rfl)))
    have g23 : Grew H H7 := Grew.trans (Grew.refl _) g22
    clear st hE vs ls
    refine res_call (d := (some 18)) (f := 79) (args := [.tmp 16, .tmp 17]) (by kernel_rfl) (R := fun z H' => Grew H7 H' ∧ ∃ S', z = .agg [.flt .f32 x, S'] ∧ SlW H' 9 (ms.filter fun m => !(lastLt t) m) S' ∧ FreshS H7.next S') ?_ ?_
    · show ACalls _ _ [E7 16, E7 17] _ _
      rw [b20, b21]
      exact k_leavingLast H7 x hx ms hr S (hS.grew g23) mxms t p15 r17
    rintro z H24 ⟨gH24, S25, rfl, sS25, fS25⟩
    have ne26 : ApartL (S25) p11 := fS25.apartL (H7.lt_of_get r13)
    have ne27 : ApartL (S25) p15 := fS25.apartL (H7.lt_of_get r17)
    have fr28 : FreshS H.next (S25) := fS25.mono g23.next
    have g29 : Grew H H24 := Grew.trans g23 gH24
    have r30 := gH24.at r13
    have r31 := gH24.at r17
    refine run_mn (φ := φ0) (pm := pmR 1 [] 0) 20 (nk := [(.atom 0, .flt .f32), (.atom 1, .one), (.atom 2, .int .i64), (.atom 3, .bool), (.atom 4, .one)]) (fs := []) (xs := [.flt .f32 x, S, .int .i64 t, .bool (okMap x ms), S25]) (ws := [⟨p15, 0, [.nd 2 (.int .i64)], false⟩, ⟨p11, 0, [.lit (.flt .f32 (some 0)), .lit .nilslice], true⟩]) (env := [(16, .agg [.nd 0 (.flt .f32), .nd 1 .one]), (17, .fn 80 [] [.ptr 0 0]), (4, .ptr 1 0), (3, .ptr 0 0), (18, .agg [.nd 0 (.flt .f32), .nd 4 .one])]) ?_ ?_ tb_ok ap_ok ?_
    · refine midN_in ?_ .nil _ ?_ ?_ ?_
      · exact (.cons rfl ⟨_, rfl, hx⟩ (.cons rfl (slOne hS) (.cons rfl ⟨_, rfl⟩ (.cons rfl ⟨_, rfl⟩ (.cons rfl sS25.one .nil)))))
      · exact (.cons (win_row r31 (dlCons (dNd rfl ⟨_, rfl⟩) dlNil)) (.cons (win_own r30 (dlCons (dLit (by decide +kernel)) (dlCons (dLit rfl) dlNil))) .nil))
      · exact ⟨(fun v hv h => (by simp at hv; rcases hv with rfl <;> first | (simp at h; done) | exact Apart.ne (by assumption) | exact (Apart.ne (by assumption)).symm)), ⟨(fun v hv => (by cases hv)), trivial⟩⟩
      · exact .nil
    · exact (envEq (put_ne rfl b20) (dAgg (dlCons (dNd rfl ⟨_, rfl, hx⟩) (dlCons (dNd rfl (slOne hS)) dlNil))) (envEq (put_ne rfl b21) (dFn' dlNil (dlCons (dPtr (l := p15) (o := 0) rfl) dlNil)) (envEq (put_ne rfl e12) (dPtr (l := p11) (o := 0) rfl) (envEq (put_ne rfl e16) (dPtr (l := p15) (o := 0) rfl) (envEq put_same (dAgg (dlCons (dNd rfl ⟨_, rfl, hx⟩) (dlCons (dNd rfl sS25.one) dlNil))) envNil)))))
    refine all1 (by kernel_rfl) ?_
    intro vs ls H32 E32 st hE
    have gz : Grew H H32 := (grew_own g29 (st.inn.kept) ⟨op11, trivial⟩)
    have hc : forgetV x ms t = (x, ms.filter (fun m => !lastLt t m), 0) := by
      unfold forgetV
      rw [f10]; first | rfl | (rw [if_neg (by decide), if_pos (by omega)]) | (rw [if_neg (by decide), if_neg (by omega)])
    exact res_ex (by kernel_rfl) (end_same st.inn hE (.inr rfl) (a := .tuple [.agg [.flt .f32 x, S25], .int .i64 0]) (by kernel_rfl) gz.next (by rw [hc]; exact ⟨gz, _, rfl, (sS25.keep st.inn.kept ⟨by assumption, trivial⟩), fr28⟩))
  ·
    intro vs ls H33 E33 st hE
    have f34 : t < 0 := of_decide_eq_true (bfact (x := decide (t < 0)) st.inn 0 (by kernel_rfl))
    have f35 : (okMap x ms) = true := bfact st.inn 1 (by kernel_rfl)
    have gz : Grew H H33 := (Grew.trans (Grew.refl _) (st.kept.grew (Nat.le_of_ble_eq_true (by kernel_rfl))))
    have hc : forgetV x ms t = ((some 0), [], 2) := by
      unfold forgetV
      rw [f35]; first | rfl | (rw [if_neg (by decide), if_pos (by omega)]) | (rw [if_neg (by decide), if_neg (by omega)])
    exact res_ex (by kernel_rfl) (end_same st.inn hE (.inr rfl) (a := .tuple [.agg [.flt .f32 (some 0), .nilslice], .int .i64 2]) (by kernel_rfl) gz.next (by rw [hc]; exact ⟨gz, _, rfl, (.nil rfl), FreshS.nil⟩))
theorem k_spec_ForgetBefore (H : AHeap) (x : Option Nat) (hx : fOk .f32 x) (ms : List (List AV)) (hr : Recs KM ms) (S : AV) (hS : SlL H 9 ms S) (mxms : ms.length ≤ 1048576) (t : Int) : ACalls Try.prog 42 [.agg [.flt .f32 x, S], .int .i64 t] H fun r H' => Grew H H' ∧ ∃ S', r = .tuple [.agg [.flt .f32 (forgetV x ms t).1, S'], .int .i64 (forgetV x ms t).2.2] ∧ SlW H' 9 (forgetV x ms t).2.1 S' ∧ FreshS H.next S' := by
  refine res_start h_spec_ForgetBefore (by simp) ?_
  refine run_mn (φ := φ0) (pm := pmR 0 [] 0) 20 (nk := [(.atom 0, .flt .f32), (.atom 1, .one), (.atom 2, .int .i64)]) (fs := []) (xs := [.flt .f32 x, S, .int .i64 t]) (ws := []) (env := [(0, .agg [.nd 0 (.flt .f32), .nd 1 .one]), (1, .nd 2 (.int .i64))]) ?_ ?_ tb_ok ap_ok ?_
  · refine midN_in ?_ .nil _ ?_ ?_ ?_
    · exact (.cons rfl ⟨_, rfl, hx⟩ (.cons rfl (slOne hS) (.cons rfl ⟨_, rfl⟩ .nil)))
    · exact .nil
    · exact sepOk_ro rfl
    · exact .nil
  · exact (envEq rfl (dAgg (dlCons (dNd rfl ⟨_, rfl, hx⟩) (dlCons (dNd rfl (slOne hS)) dlNil))) (envEq rfl (dNd rfl ⟨_, rfl⟩) envNil))
  refine all1 (by kernel_rfl) ?_
  intro vs ls H1 E1 st hE
  obtain ⟨p2, e3, r4, n5⟩ := ptr_of st.inn hE 2 0 (by kernel_rfl) (ds := [.flt .f32 x, S]) (by kernel_rfl)
  have op2 : H.next ≤ p2 := Nat.le_trans (Nat.le_refl _) (n5 (Nat.le_of_ble_eq_true rfl))
  obtain ⟨p6, e7, r8, n9⟩ := ptr_of st.inn hE 4 1 (by kernel_rfl) (ds := [.flt .f32 (some 0), .nilslice]) (by kernel_rfl)
  have op6 : H.next ≤ p6 := Nat.le_trans (Nat.le_refl _) (n9 (Nat.le_of_ble_eq_true rfl))
  have ne10 : Apart p2 p6 := ⟨ptr_ne st.inn hE 2 0 4 1 (by kernel_rfl) (by kernel_rfl) (cs := [.nd 0 (.flt .f32), .nd 1 .one]) (by kernel_rfl) (by decide) e3 e7⟩
  have b11 : E1 1 = .int .i64 t := env_of st.inn hE 1 (by kernel_rfl)
  have g12 : Grew H H1 := (st.kept.grew (Nat.le_of_ble_eq_true (by kernel_rfl)))
  have g13 : Grew H H1 := Grew.trans (Grew.refl _) g12
  clear st hE vs ls
  refine res_call (d := (some 8)) (f := 72) (args := [.tmp 2]) (by kernel_rfl) (R := fun z H' => z = .bool (okMap x ms) ∧ H' = H1) ?_ ?_
  · show ACalls _ _ [E1 2] _ _
    rw [e3]
    exact k_l05Ok H1 p2 x hx S true ms hr r4 (hS.grew g13) (mx40 mxms)
  rintro z H1 ⟨rfl, rfl⟩
  refine run_mn (φ := φ0) (pm := pmR 1 [] 0) 20 (nk := [(.atom 0, .flt .f32), (.atom 1, .one), (.atom 2, .int .i64), (.atom 3, .bool)]) (fs := []) (xs := [.flt .f32 x, S, .int .i64 t, .bool (okMap x ms)]) (ws := [⟨p2, 0, [.nd 0 (.flt .f32), .nd 1 .one], false⟩, ⟨p6, 0, [.lit (.flt .f32 (some 0)), .lit .nilslice], true⟩]) (env := [(2, .ptr 0 0), (4, .ptr 1 0), (1, .nd 2 (.int .i64)), (8, .nd 3 .bool)]) ?_ ?_ tb_ok ap_ok ?_
  · refine midN_in ?_ .nil _ ?_ ?_ ?_
    · exact (.cons rfl ⟨_, rfl, hx⟩ (.cons rfl (slOne hS) (.cons rfl ⟨_, rfl⟩ (.cons rfl ⟨_, rfl⟩ .nil))))
    · exact (.cons (win_row r4 (dlCons (dNd rfl ⟨_, rfl, hx⟩) (dlCons (dNd rfl (slOne hS)) dlNil))) (.cons (win_own r8 (dlCons (dLit (by decide +kernel)) (dlCons (dLit rfl) dlNil))) .nil))
    · exact ⟨(fun v hv h => (by simp at hv; rcases hv with rfl <;> first | (simp at h; done) | exact Apart.ne (by assumption) | exact (Apart.ne (by assumption)).symm)), ⟨(fun v hv => (by cases hv)), trivial⟩⟩
    · exact .nil
  · exact (envEq (put_ne rfl e3) (dPtr (l := p2) (o := 0) rfl) (envEq (put_ne rfl e7) (dPtr (l := p6) (o := 0) rfl) (envEq (put_ne rfl b11) (dNd rfl ⟨_, rfl⟩) (envEq put_same (dNd rfl ⟨_, rfl⟩) envNil))))
  refine all4 (by kernel_rfl) ?_ ?_ ?_ ?_
  ·
    intro vs ls H14 E14 st hE
    have f15 : (okMap x ms) = false := bfact st.inn 0 (by kernel_rfl)
    have gz : Grew H H14 := (grew_own g13 (st.inn.kept) ⟨op6, trivial⟩)
    have hc : forgetV x ms t = ((some 0), [], 1) := by
      unfold forgetV
      rw [f15]; first | rfl | (rw [if_neg (by decide), if_pos (by omega)]) | (rw [if_neg (by decide), if_neg (by omega)])
    exact res_ex (by kernel_rfl) (end_same st.inn hE (.inr rfl) (a := .tuple [.agg [.flt .f32 (some 0), .nilslice], .int .i64 1]) (by kernel_rfl) gz.next (by rw [hc]; exact ⟨gz, _, rfl, (.nil rfl), FreshS.nil⟩))
  ·
    intro vs ls H16 E16 st hE
    have f17 : 1000000000 < t := of_decide_eq_true (bfact (x := decide (1000000000 < t)) st.inn 0 (by kernel_rfl))
    have f18 : ¬ (t < 0) := of_decide_eq_false (bfact (x := decide (t < 0)) st.inn 1 (by kernel_rfl))
    have f19 : (okMap x ms) = true := bfact st.inn 2 (by kernel_rfl)
    have gz : Grew H H16 := (grew_own g13 (st.inn.kept) ⟨op6, trivial⟩)
    have hc : forgetV x ms t = ((some 0), [], 2) := by
      unfold forgetV
      rw [f19]; first | rfl | (rw [if_neg (by decide), if_pos (by omega)]) | (rw [if_neg (by decide), if_neg (by omega)])
    exact res_ex (by kernel_rfl) (end_same st.inn hE (.inr rfl) (a := .tuple [.agg [.flt .f32 (some 0), .nilslice], .int .i64 2]) (by kernel_rfl) gz.next (by rw [hc]; exact ⟨gz, _, rfl, (.nil rfl), FreshS.nil⟩))
  ·
    intro vs ls H20 E20 st hE
    have f21 : ¬ (1000000000 < t) := of_decide_eq_false (bfact (x := decide (1000000000 < t)) st.inn 0 (by kernel_rfl))
    have f22 : ¬ (t < 0) := of_decide_eq_false (bfact (x := decide (t < 0)) st.inn 1 (by kernel_rfl))
    have f23 : (okMap x ms) = true := bfact st.inn 2 (by kernel_rfl)
    obtain ⟨p24, e25, r26, n27⟩ := ptr_of st.inn hE 6 2 (by kernel_rfl) (ds := [.flt .f32 x, .nilslice]) (by kernel_rfl)
    have op24 : H.next ≤ p24 := Nat.le_trans g13.next (n27 (Nat.le_of_ble_eq_true rfl))
    have ne28 : Apart p24 p2 := ⟨Nat.ne_of_gt (Nat.lt_of_lt_of_le (H1.lt_of_get r4) (n27 (Nat.le_of_ble_eq_true rfl)))⟩
    have ne29 : Apart p24 p6 := ⟨Nat.ne_of_gt (Nat.lt_of_lt_of_le (H1.lt_of_get r8) (n27 (Nat.le_of_ble_eq_true rfl)))⟩
    have b30 : E20 7 = .int .i64 0 := env_of st.inn hE 7 (by kernel_rfl)
    have b31 : E20 2 = .ptr p2 0 := env_of st.inn hE 2 (by kernel_rfl)
    have b32 : E20 1 = .int .i64 t := env_of st.inn hE 1 (by kernel_rfl)
    have b33 : E20 4 = .ptr p6 0 := env_of st.inn hE 4 (by kernel_rfl)
    have g34 : Grew H1 H20 := (st.kept.grew (Nat.le_of_ble_eq_true (by kernel_rfl)))
    have g35 : Grew H H20 := Grew.trans g13 g34
    have r36 := g34.at r4
    have r37 := g34.at r8
    clear st hE vs ls
    refine res_loop (by kernel_rfl) (fun z E H' => ∃ (i : Nat) (acc38_0 : AV), z + i = ms.length ∧ E 2 = .ptr p2 0 ∧ E 1 = .int .i64 t ∧ E 6 = .ptr p24 0 ∧ E 4 = .ptr p6 0 ∧ E 7 = .int .i64 (i : Int) ∧ Grew H H' ∧ H'.get p2 = some (.row [.flt .f32 x, S] true) ∧ H'.get p24 = some (.row [.flt .f32 x, acc38_0] true) ∧ H'.get p6 = some (.row [.flt .f32 (some 0), .nilslice] true) ∧ SlF H' 9 (keepTo (lastLt t) ms i) acc38_0 ∧ FreshS H.next acc38_0 ∧ ApartL acc38_0 p2 ∧ ApartL acc38_0 p24 ∧ ApartL acc38_0 p6) (ms.length) ⟨0, .nilslice, by omega, b31, b32, e25, b33, b30, g35, r36, r26, r37, (.nil rfl), FreshS.nil, ApartL.nil, ApartL.nil, ApartL.nil⟩ ?_
    rintro z38 Ei38 Hi38 ⟨i38, acc38_0, hz38, c38_2, c38_1, c38_6, c38_4, ci38, gt38, r38_0, r38_1, r38_2, s38_0, f38_0, ap38_0_0, ap38_0_1, ap38_0_2⟩
    have hln38_0 : ((keepTo (lastLt t) ms i38)).length ≤ i38 := keepTo_le (by omega)
    refine run_mn (φ := φ0) (pm := pmR 2 [(.len (.nd 1 .one), .nd 6 (.int .i64))] 0) 20 (nk := [(.atom 0, .flt .f32), (.atom 1, .one), (.atom 2, .int .i64), (.atom 3, .bool), (.atom 4, .int .i64), (.atom 5, .one), (.atom 6, .int .i64)]) (fs := []) (xs := [.flt .f32 x, S, .int .i64 t, .bool (okMap x ms), .int .i64 (i38 : Int), acc38_0, .int .i64 (ms.length : Int)]) (ws := [⟨p2, 0, [.nd 0 (.flt .f32), .nd 1 .one], false⟩, ⟨p24, 0, [.nd 0 (.flt .f32), .nd 5 .one], false⟩, ⟨p6, 0, [.lit (.flt .f32 (some 0)), .lit .nilslice], true⟩]) (env := [(2, .ptr 0 0), (1, .nd 2 (.int .i64)), (6, .ptr 1 0), (4, .ptr 2 0), (7, .nd 4 (.int .i64))]) ?_ ?_ tb_ok ap_ok ?_
    · refine midN_in ?_ .nil _ ?_ ?_ ?_
      · exact (.cons rfl ⟨_, rfl, hx⟩ (.cons rfl (slOne hS) (.cons rfl ⟨_, rfl⟩ (.cons rfl ⟨_, rfl⟩ (.cons rfl ⟨_, rfl⟩ (.cons rfl s38_0.one (.cons rfl ⟨_, rfl⟩ .nil)))))))
      · exact (.cons (win_row r38_0 (dlCons (dNd rfl ⟨_, rfl, hx⟩) (dlCons (dNd rfl (slOne hS)) dlNil))) (.cons (win_row r38_1 (dlCons (dNd rfl ⟨_, rfl, hx⟩) (dlCons (dNd rfl s38_0.one) dlNil))) (.cons (win_own r38_2 (dlCons (dLit (by decide +kernel)) (dlCons (dLit rfl) dlNil))) .nil)))
      · exact ⟨(fun v hv h => (by simp at hv; rcases hv with rfl | rfl <;> first | (simp at h; done) | exact Apart.ne (by assumption) | exact (Apart.ne (by assumption)).symm)), ⟨(fun v hv h => (by simp at hv; rcases hv with rfl <;> first | (simp at h; done) | exact Apart.ne (by assumption) | exact (Apart.ne (by assumption)).symm)), ⟨(fun v hv => (by cases hv)), trivial⟩⟩⟩
      · exact (.cons (⟨_, _, (dNd rfl (slOne hS)), (dNd rfl ⟨_, rfl⟩), slLen hS⟩) .nil)
    · exact (envEq c38_2 (dPtr (l := p2) (o := 0) rfl) (envEq c38_1 (dNd rfl ⟨_, rfl⟩) (envEq c38_6 (dPtr (l := p24) (o := 0) rfl) (envEq c38_4 (dPtr (l := p6) (o := 0) rfl) (envEq ci38 (dNd rfl ⟨_, rfl⟩) envNil)))))
    refine all2 (by kernel_rfl) ?_ ?_
    ·
      intro vs ls H39 E39 st hE
      have f40 : (i38 : Int) < (ms.length : Int) := of_decide_eq_true (bfact (x := decide ((i38 : Int) < (ms.length : Int))) st.inn 0 (by kernel_rfl))
      have b41 : E39 26 = S := env_of st.inn hE 26 (by kernel_rfl)
      have b42 : E39 27 = .int .i64 (i38 : Int) := env_of st.inn hE 27 (by kernel_rfl)
      have b43 : E39 1 = .int .i64 t := env_of st.inn hE 1 (by kernel_rfl)
      have b44 : E39 6 = .ptr p24 0 := env_of st.inn hE 6 (by kernel_rfl)
      have b45 : E39 2 = .ptr p2 0 := env_of st.inn hE 2 (by kernel_rfl)
      have b46 : E39 7 = .int .i64 (i38 : Int) := env_of st.inn hE 7 (by kernel_rfl)
      have b47 : E39 4 = .ptr p6 0 := env_of st.inn hE 4 (by kernel_rfl)
      have g48 : Grew Hi38 H39 := (st.kept.grew (Nat.le_of_ble_eq_true (by kernel_rfl)))
      have g49 : Grew H H39 := Grew.trans gt38 g48
      have r50 := g48.at r38_0
      have r51 := g48.at r38_1
      have r52 := g48.at r38_2
      have s53 := s38_0.grew g48
      clear st hE vs ls
      have hlt54 : i38 < ms.length := by omega
      obtain ⟨lS54, cap54, rest54, wr54, eS54, gB54⟩ := hS.isSl hlt54
      have gS54 := g49.at gB54
      have ne55 : Apart p2 lS54 := ⟨Nat.ne_of_gt (Nat.lt_of_lt_of_le (H.lt_of_get gB54) op2)⟩
      have ne56 : Apart p24 lS54 := ⟨Nat.ne_of_gt (Nat.lt_of_lt_of_le (H.lt_of_get gB54) op24)⟩
      have ne57 : Apart p6 lS54 := ⟨Nat.ne_of_gt (Nat.lt_of_lt_of_le (H.lt_of_get gB54) op6)⟩
      obtain ⟨v54_0, v54_1, v54_2, v54_3, v54_4, v54_5, v54_6, v54_7, v54_8, hm54, ho54_3, ho54_4, ho54_5, ho54_6⟩ := partsMark (hr.get hlt54)
      have he54 : ms.getD i38 [] = [.int .i32 v54_0, .int .i32 v54_1, .int .i32 v54_2, .flt .f32 v54_3, .flt .f32 v54_4, .flt .f32 v54_5, .flt .f32 v54_6, .int .i64 v54_7, .int .i64 v54_8] := by rw [← hm54]; simp [List.getD_eq_getElem?_getD, hlt54]
      refine run_mn (φ := φ0) (pm := pmR 3 [(.ia 9 (.nd 1 .one) (.nd 4 (.int .i64)), .ptr 2 0)] 0) 20 (nk := [(.atom 0, .flt .f32), (.atom 1, .one), (.atom 2, .int .i64), (.atom 3, .bool), (.atom 4, .int .i64), (.atom 5, .one), (.atom 6, .int .i64), (.atom 7, .int .i32), (.atom 8, .int .i32), (.atom 9, .int .i32), (.atom 10, .flt .f32), (.atom 11, .flt .f32), (.atom 12, .flt .f32), (.atom 13, .flt .f32), (.atom 14, .int .i64), (.atom 15, .int .i64)]) (fs := []) (xs := [.flt .f32 x, S, .int .i64 t, .bool (okMap x ms), .int .i64 (i38 : Int), acc38_0, .int .i64 (ms.length : Int), .int .i32 v54_0, .int .i32 v54_1, .int .i32 v54_2, .flt .f32 v54_3, .flt .f32 v54_4, .flt .f32 v54_5, .flt .f32 v54_6, .int .i64 v54_7, .int .i64 v54_8]) (ws := [⟨p2, 0, [.nd 0 (.flt .f32), .nd 1 .one], false⟩, ⟨p24, 0, [.nd 0 (.flt .f32), .nd 5 .one], false⟩, ⟨lS54, (i38 * 9), [.nd 7 (.int .i32), .nd 8 (.int .i32), .nd 9 (.int .i32), .nd 10 (.flt .f32), .nd 11 (.flt .f32), .nd 12 (.flt .f32), .nd 13 (.flt .f32), .nd 14 (.int .i64), .nd 15 (.int .i64)], false⟩, ⟨p6, 0, [.lit (.flt .f32 (some 0)), .lit .nilslice], true⟩]) (env := [(26, .nd 1 .one), (27, .nd 4 (.int .i64)), (1, .nd 2 (.int .i64)), (6, .ptr 1 0), (2, .ptr 0 0), (7, .nd 4 (.int .i64)), (4, .ptr 3 0)]) ?_ ?_ tb_ok ap_ok ?_
      · refine midN_in ?_ .nil _ ?_ ?_ ?_
        · exact (.cons rfl ⟨_, rfl, hx⟩ (.cons rfl (slOne hS) (.cons rfl ⟨_, rfl⟩ (.cons rfl ⟨_, rfl⟩ (.cons rfl ⟨_, rfl⟩ (.cons rfl s38_0.one (.cons rfl ⟨_, rfl⟩ (.cons rfl ⟨_, rfl⟩ (.cons rfl ⟨_, rfl⟩ (.cons rfl ⟨_, rfl⟩ (.cons rfl ⟨_, rfl, ho54_3⟩ (.cons rfl ⟨_, rfl, ho54_4⟩ (.cons rfl ⟨_, rfl, ho54_5⟩ (.cons rfl ⟨_, rfl, ho54_6⟩ (.cons rfl ⟨_, rfl⟩ (.cons rfl ⟨_, rfl⟩ .nil))))))))))))))))
        · exact (.cons (win_row r50 (dlCons (dNd rfl ⟨_, rfl, hx⟩) (dlCons (dNd rfl (slOne hS)) dlNil))) (.cons (win_row r51 (dlCons (dNd rfl ⟨_, rfl, hx⟩) (dlCons (dNd rfl s38_0.one) dlNil))) (.cons (win_elem hr gS54 hlt54 rfl (by rw [hm54]; exact (dlCons (dNd rfl ⟨_, rfl⟩) (dlCons (dNd rfl ⟨_, rfl⟩) (dlCons (dNd rfl ⟨_, rfl⟩) (dlCons (dNd rfl ⟨_, rfl, ho54_3⟩) (dlCons (dNd rfl ⟨_, rfl, ho54_4⟩) (dlCons (dNd rfl ⟨_, rfl, ho54_5⟩) (dlCons (dNd rfl ⟨_, rfl, ho54_6⟩) (dlCons (dNd rfl ⟨_, rfl⟩) (dlCons (dNd rfl ⟨_, rfl⟩) dlNil))))))))))) (.cons (win_own r52 (dlCons (dLit (by decide +kernel)) (dlCons (dLit rfl) dlNil))) .nil))))
        · exact ⟨(fun v hv h => (by simp at hv; rcases hv with rfl | rfl | rfl <;> first | (simp at h; done) | exact Apart.ne (by assumption) | exact (Apart.ne (by assumption)).symm)), ⟨(fun v hv h => (by simp at hv; rcases hv with rfl | rfl <;> first | (simp at h; done) | exact Apart.ne (by assumption) | exact (Apart.ne (by assumption)).symm)), ⟨(fun v hv h => (by simp at hv; rcases hv with rfl <;> first | (simp at h; done) | exact Apart.ne (by assumption) | exact (Apart.ne (by assumption)).symm)), ⟨(fun v hv => (by cases hv)), trivial⟩⟩⟩⟩
        · exact (.cons (rule_iaS (k := i38) (dNd rfl (slOne hS)) eS54 (dNd rfl ⟨_, rfl⟩) hlt54 rfl) .nil)
      · exact (envEq b41 (dNd rfl (slOne hS)) (envEq b42 (dNd rfl ⟨_, rfl⟩) (envEq b43 (dNd rfl ⟨_, rfl⟩) (envEq b44 (dPtr (l := p24) (o := 0) rfl) (envEq b45 (dPtr (l := p2) (o := 0) rfl) (envEq b46 (dNd rfl ⟨_, rfl⟩) (envEq b47 (dPtr (l := p6) (o := 0) rfl) envNil)))))))
      refine all2 (by kernel_rfl) ?_ ?_
      ·
        intro vs ls H58 E58 st hE
        have f59 : ¬ (v54_8 < t) := of_decide_eq_false (bfact (x := decide (v54_8 < t)) st.inn 0 (by kernel_rfl))
        obtain ⟨p60, e61, r62, n63⟩ := sl_of st.inn hE 40 4 1 1 9 (by kernel_rfl) (ds := [.int .i32 v54_0, .int .i32 v54_1, .int .i32 v54_2, .flt .f32 v54_3, .flt .f32 v54_4, .flt .f32 v54_5, .flt .f32 v54_6, .int .i64 v54_7, .int .i64 v54_8]) (by kernel_rfl)
        have op60 : H.next ≤ p60 := Nat.le_trans g49.next (n63 (Nat.le_of_ble_eq_true rfl))
        have ne64 : Apart p60 p2 := ⟨Nat.ne_of_gt (Nat.lt_of_lt_of_le (H39.lt_of_get r50) (n63 (Nat.le_of_ble_eq_true rfl)))⟩
        have ne65 : Apart p60 p24 := ⟨Nat.ne_of_gt (Nat.lt_of_lt_of_le (H39.lt_of_get r51) (n63 (Nat.le_of_ble_eq_true rfl)))⟩
        have ne66 : Apart p60 p6 := ⟨Nat.ne_of_gt (Nat.lt_of_lt_of_le (H39.lt_of_get r52) (n63 (Nat.le_of_ble_eq_true rfl)))⟩
        have ne67 : ApartL (acc38_0) p60 := s53.apart_new (n63 (Nat.le_of_ble_eq_true rfl))
        have b68 : E58 34 = acc38_0 := env_of st.inn hE 34 (by kernel_rfl)
        have b69 : E58 6 = .ptr p24 0 := env_of st.inn hE 6 (by kernel_rfl)
        have b70 : E58 7 = .int .i64 (i38 : Int) := env_of st.inn hE 7 (by kernel_rfl)
        have b71 : E58 2 = .ptr p2 0 := env_of st.inn hE 2 (by kernel_rfl)
        have b72 : E58 1 = .int .i64 t := env_of st.inn hE 1 (by kernel_rfl)
        have b73 : E58 4 = .ptr p6 0 := env_of st.inn hE 4 (by kernel_rfl)
        have g74 : Grew H39 H58 := (st.kept.grew (Nat.le_of_ble_eq_true (by kernel_rfl)))
        have g75 : Grew H H58 := Grew.trans g49 g74
        have r76 := g74.at r50
        have r77 := g74.at r51
        have r79 := g74.at r52
        have s80 := s53.grew g74
        clear st hE vs ls
        refine res_appendK (free := true) (d := (some 41)) (sz := 9) (bytes := 48) (x := .tmp 34) (y := .tmp 40) (by kernel_rfl) (S := acc38_0) (ms := (keepTo (lastLt t) ms i38)) (ys := [[.int .i32 v54_0, .int .i32 v54_1, .int .i32 v54_2, .flt .f32 v54_3, .flt .f32 v54_4, .flt .f32 v54_5, .flt .f32 v54_6, .int .i64 v54_7, .int .i64 v54_8]]) (by show E58 34 = _; exact b68) s80 (keepTo_recs hr i38).len (by show srcCells _ _ (E58 40) = _; rw [e61]; exact src_one r62 rfl) (recs_one (ks := KM) (Recs.one (ks := KM) (.cons ⟨_, rfl⟩ (.cons ⟨_, rfl⟩ (.cons ⟨_, rfl⟩ (.cons ⟨_, rfl, ho54_3⟩ (.cons ⟨_, rfl, ho54_4⟩ (.cons ⟨_, rfl, ho54_5⟩ (.cons ⟨_, rfl, ho54_6⟩ (.cons ⟨_, rfl⟩ (.cons ⟨_, rfl⟩ .nil)))))))))) rfl) (by show (2 * ((keepTo (lastLt t) ms i38).length + 1) + 192) * 48 ≤ 281474976710656; omega) ?_
        intro S81 H82 sS81 fS81 oS81
        have ne83 : ApartL (S81) p2 := fS81.apartL (H58.lt_of_get r76) (by assumption)
        have ne84 : ApartL (S81) p24 := fS81.apartL (H58.lt_of_get r77) (by assumption)
        have ne85 : ApartL (S81) p60 := fS81.apartL (H58.lt_of_get r62) (by assumption)
        have ne86 : ApartL (S81) p6 := fS81.apartL (H58.lt_of_get r79) (by assumption)
        have fr87 : FreshS H.next (S81) := fS81.fresh f38_0 g75.next
        have g88 : Grew H H82 := OnlyS.own g75 f38_0 oS81
        have r89 := oS81.at r76 (by assumption)
        have r90 := oS81.at r77 (by assumption)
        have r91 := oS81.at r62 (by assumption)
        have r92 := oS81.at r79 (by assumption)
        refine ⟨.inl rfl, ?_⟩
        refine run_mn (φ := φ0) (pm := pmR 2 [] 0) 20 (nk := [(.atom 0, .flt .f32), (.atom 1, .one), (.atom 2, .int .i64), (.atom 3, .bool), (.atom 4, .int .i64), (.atom 5, .one), (.atom 6, .int .i64), (.atom 7, .int .i32), (.atom 8, .int .i32), (.atom 9, .int .i32), (.atom 10, .flt .f32), (.atom 11, .flt .f32), (.atom 12, .flt .f32), (.atom 13, .flt .f32), (.atom 14, .int .i64), (.atom 15, .int .i64), (.atom 16, .one)]) (fs := []) (xs := [.flt .f32 x, S, .int .i64 t, .bool (okMap x ms), .int .i64 (i38 : Int), acc38_0, .int .i64 (ms.length : Int), .int .i32 v54_0, .int .i32 v54_1, .int .i32 v54_2, .flt .f32 v54_3, .flt .f32 v54_4, .flt .f32 v54_5, .flt .f32 v54_6, .int .i64 v54_7, .int .i64 v54_8, S81]) (ws := [⟨p2, 0, [.nd 0 (.flt .f32), .nd 1 .one], false⟩, ⟨p60, 0, [.nd 7 (.int .i32), .nd 8 (.int .i32), .nd 9 (.int .i32), .nd 10 (.flt .f32), .nd 11 (.flt .f32), .nd 12 (.flt .f32), .nd 13 (.flt .f32), .nd 14 (.int .i64), .nd 15 (.int .i64)], false⟩, ⟨p6, 0, [.lit (.flt .f32 (some 0)), .lit .nilslice], true⟩, ⟨p24, 0, [.nd 0 (.flt .f32), .nd 5 .one], true⟩]) (env := [(34, .nd 5 .one), (40, .sl 1 0 1 1 9), (6, .ptr 3 0), (7, .nd 4 (.int .i64)), (2, .ptr 0 0), (1, .nd 2 (.int .i64)), (4, .ptr 2 0), (41, .nd 16 .one)]) ?_ ?_ tb_ok ap_ok ?_
        · refine midN_in ?_ .nil _ ?_ ?_ ?_
          · exact (.cons rfl ⟨_, rfl, hx⟩ (.cons rfl (slOne hS) (.cons rfl ⟨_, rfl⟩ (.cons rfl ⟨_, rfl⟩ (.cons rfl ⟨_, rfl⟩ (.cons rfl s38_0.one (.cons rfl ⟨_, rfl⟩ (.cons rfl ⟨_, rfl⟩ (.cons rfl ⟨_, rfl⟩ (.cons rfl ⟨_, rfl⟩ (.cons rfl ⟨_, rfl, ho54_3⟩ (.cons rfl ⟨_, rfl, ho54_4⟩ (.cons rfl ⟨_, rfl, ho54_5⟩ (.cons rfl ⟨_, rfl, ho54_6⟩ (.cons rfl ⟨_, rfl⟩ (.cons rfl ⟨_, rfl⟩ (.cons rfl sS81.one .nil)))))))))))))))))
          · exact (.cons (win_row r89 (dlCons (dNd rfl ⟨_, rfl, hx⟩) (dlCons (dNd rfl (slOne hS)) dlNil))) (.cons (win_row r91 (dlCons (dNd rfl ⟨_, rfl⟩) (dlCons (dNd rfl ⟨_, rfl⟩) (dlCons (dNd rfl ⟨_, rfl⟩) (dlCons (dNd rfl ⟨_, rfl, ho54_3⟩) (dlCons (dNd rfl ⟨_, rfl, ho54_4⟩) (dlCons (dNd rfl ⟨_, rfl, ho54_5⟩) (dlCons (dNd rfl ⟨_, rfl, ho54_6⟩) (dlCons (dNd rfl ⟨_, rfl⟩) (dlCons (dNd rfl ⟨_, rfl⟩) dlNil)))))))))) (.cons (win_own r92 (dlCons (dLit (by decide +kernel)) (dlCons (dLit rfl) dlNil))) (.cons (win_own r90 (dlCons (dNd rfl ⟨_, rfl, hx⟩) (dlCons (dNd rfl s38_0.one) dlNil))) .nil))))
          · exact ⟨(fun v hv h => (by simp at hv; rcases hv with rfl | rfl | rfl <;> first | (simp at h; done) | exact Apart.ne (by assumption) | exact (Apart.ne (by assumption)).symm)), ⟨(fun v hv h => (by simp at hv; rcases hv with rfl | rfl <;> first | (simp at h; done) | exact Apart.ne (by assumption) | exact (Apart.ne (by assumption)).symm)), ⟨(fun v hv h => (by simp at hv; rcases hv with rfl <;> first | (simp at h; done) | exact Apart.ne (by assumption) | exact (Apart.ne (by assumption)).symm)), ⟨(fun v hv => (by cases hv)), trivial⟩⟩⟩⟩
          · exact .nil
        · exact (envEq (put_ne rfl b68) (dNd rfl s38_0.one) (envEq (put_ne rfl e61) (dSl' (l := p60) (o := 0) rfl) (envEq (put_ne rfl b69) (dPtr (l := p24) (o := 0) rfl) (envEq (put_ne rfl b70) (dNd rfl ⟨_, rfl⟩) (envEq (put_ne rfl b71) (dPtr (l := p2) (o := 0) rfl) (envEq (put_ne rfl b72) (dNd rfl ⟨_, rfl⟩) (envEq (put_ne rfl b73) (dPtr (l := p6) (o := 0) rfl) (envEq put_same (dNd rfl sS81.one) envNil))))))))
        refine all1 (by kernel_rfl) ?_
        intro vs ls H93 E93 st hE
        have r94 : H93.get p6 = some (.row [.flt .f32 (some 0), .nilslice] true) := row_whole st.inn 2 (l := p6) (b := 0) rfl (by kernel_rfl)
        have r95 : H93.get p24 = some (.row [.flt .f32 x, S81] true) := row_whole st.inn 3 (l := p24) (b := 0) rfl (by kernel_rfl)
        obtain ⟨w96, hw96⟩ : ∃ z, z = (IntKind.wrap .i64 ((i38 : Int) + 1)) := ⟨_, rfl⟩
        have b97 : E93 7 = .int .i64 w96 := by rw [hw96]; exact env_of st.inn hE 7 (by kernel_rfl)
        have b98 : E93 2 = .ptr p2 0 := env_of st.inn hE 2 (by kernel_rfl)
        have b99 : E93 1 = .int .i64 t := env_of st.inn hE 1 (by kernel_rfl)
        have b100 : E93 6 = .ptr p24 0 := env_of st.inn hE 6 (by kernel_rfl)
        have b101 : E93 4 = .ptr p6 0 := env_of st.inn hE 4 (by kernel_rfl)
        have g103 : Grew H H93 := grew_own g88 st.inn.kept ⟨op6, ⟨op24, trivial⟩⟩
        have r104 := kept_at st.inn.kept r89 ⟨by first | assumption | exact Apart.symm (by assumption), ⟨by first | assumption | exact Apart.symm (by assumption), trivial⟩⟩
        have r105 := kept_at st.inn.kept r91 ⟨by first | assumption | exact Apart.symm (by assumption), ⟨by first | assumption | exact Apart.symm (by assumption), trivial⟩⟩
        have s106 := sS81.keep st.inn.kept ⟨by assumption, ⟨by assumption, trivial⟩⟩
        clear st hE vs ls
        have hz9 : z38 - 1 < z38 := by omega
        have hy9 : z38 - 1 + (i38 + 1) = ms.length := by omega
        have hi9 : E93 7 = .int .i64 ((i38 + 1 : Nat) : Int) := by rw [b97, hw96, wrap64 (by omega)]
        have hs9 : keepTo (lastLt t) ms (i38 + 1) = ((keepTo (lastLt t) ms i38) ++ [[.int .i32 v54_0, .int .i32 v54_1, .int .i32 v54_2, .flt .f32 v54_3, .flt .f32 v54_4, .flt .f32 v54_5, .flt .f32 v54_6, .int .i64 v54_7, .int .i64 v54_8]]) := by
          rw [keepTo_succ hlt54, hm54, if_neg (by simp [lastLt, lightB, f59])]
        exact res_norm (by kernel_rfl) ⟨z38 - 1, hz9, i38 + 1, S81, hy9, b98, b99, b100, b101, hi9, g103, r104, r95, r94, (by rw [hs9]; exact s106), fr87, (by assumption), (by assumption), (by assumption)⟩
      ·
        intro vs ls H107 E107 st hE
        have f108 : v54_8 < t := of_decide_eq_true (bfact (x := decide (v54_8 < t)) st.inn 0 (by kernel_rfl))
        obtain ⟨w109, hw109⟩ : ∃ z, z = (IntKind.wrap .i64 ((i38 : Int) + 1)) := ⟨_, rfl⟩
        have b110 : E107 7 = .int .i64 w109 := by rw [hw109]; exact env_of st.inn hE 7 (by kernel_rfl)
        have b111 : E107 2 = .ptr p2 0 := env_of st.inn hE 2 (by kernel_rfl)
        have b112 : E107 1 = .int .i64 t := env_of st.inn hE 1 (by kernel_rfl)
        have b113 : E107 6 = .ptr p24 0 := env_of st.inn hE 6 (by kernel_rfl)
        have b114 : E107 4 = .ptr p6 0 := env_of st.inn hE 4 (by kernel_rfl)
        have g115 : Grew H39 H107 := (st.kept.grew (Nat.le_of_ble_eq_true (by kernel_rfl)))
        have g116 : Grew H H107 := Grew.trans g49 g115
        have r117 := g115.at r50
        have r118 := g115.at r51
        have r120 := g115.at r52
        have s121 := s53.grew g115
        clear st hE vs ls
        have hz9 : z38 - 1 < z38 := by omega
        have hy9 : z38 - 1 + (i38 + 1) = ms.length := by omega
        have hi9 : E107 7 = .int .i64 ((i38 + 1 : Nat) : Int) := by rw [b110, hw109, wrap64 (by omega)]
        have hs9 : keepTo (lastLt t) ms (i38 + 1) = (keepTo (lastLt t) ms i38) := by
          rw [keepTo_succ hlt54, hm54, if_pos (by simp [lastLt, lightB, f108]), List.append_nil]
        exact res_norm (by kernel_rfl) ⟨z38 - 1, hz9, i38 + 1, acc38_0, hy9, b111, b112, b113, b114, hi9, g116, r117, r118, r120, (by rw [hs9]; exact s121), f38_0, (by assumption), (by assumption), (by assumption)⟩
    ·
      intro vs ls H122 E122 st hE
      have f123 : ¬ ((i38 : Int) < (ms.length : Int)) := of_decide_eq_false (bfact (x := decide ((i38 : Int) < (ms.length : Int))) st.inn 0 (by kernel_rfl))
      have b124 : E122 7 = .int .i64 (i38 : Int) := env_of st.inn hE 7 (by kernel_rfl)
      have b125 : E122 2 = .ptr p2 0 := env_of st.inn hE 2 (by kernel_rfl)
      have b126 : E122 19 = .ptr p2 1 := env_of st.inn hE 19 (by kernel_rfl)
      have b127 : E122 20 = S := env_of st.inn hE 20 (by kernel_rfl)
      have b128 : E122 18 = .int .i64 (i38 : Int) := env_of st.inn hE 18 (by kernel_rfl)
      have b129 : E122 21 = .int .i64 (ms.length : Int) := env_of st.inn hE 21 (by kernel_rfl)
      obtain ⟨w130, hw130⟩ : ∃ z, z = (decide ((i38 : Int) < (ms.length : Int))) := ⟨_, rfl⟩
      have b131 : E122 22 = .bool w130 := by rw [hw130]; exact env_of st.inn hE 22 (by kernel_rfl)
      have b132 : E122 1 = .int .i64 t := env_of st.inn hE 1 (by kernel_rfl)
      have b133 : E122 6 = .ptr p24 0 := env_of st.inn hE 6 (by kernel_rfl)
      have b134 : E122 4 = .ptr p6 0 := env_of st.inn hE 4 (by kernel_rfl)
      have g135 : Grew Hi38 H122 := (st.kept.grew (Nat.le_of_ble_eq_true (by kernel_rfl)))
      have g136 : Grew H H122 := Grew.trans gt38 g135
      have r137 := g135.at r38_0
      have r138 := g135.at r38_1
      have r139 := g135.at r38_2
      have s140 := s38_0.grew g135
      clear st hE vs ls
      refine res_exit (id := 0) (by kernel_rfl) ?_
      refine run_mn (φ := φ0) (pm := pmR 2 [] 0) 20 (nk := [(.atom 0, .flt .f32), (.atom 1, .one), (.atom 2, .int .i64), (.atom 3, .bool), (.atom 4, .int .i64), (.atom 5, .one), (.atom 6, .int .i64), (.atom 7, .bool)]) (fs := []) (xs := [.flt .f32 x, S, .int .i64 t, .bool (okMap x ms), .int .i64 (i38 : Int), acc38_0, .int .i64 (ms.length : Int), .bool w130]) (ws := [⟨p2, 0, [.nd 0 (.flt .f32), .nd 1 .one], false⟩, ⟨p24, 0, [.nd 0 (.flt .f32), .nd 5 .one], false⟩, ⟨p6, 0, [.lit (.flt .f32 (some 0)), .lit .nilslice], true⟩]) (env := [(7, .nd 4 (.int .i64)), (2, .ptr 0 0), (19, .ptr 0 1), (20, .nd 1 .one), (18, .nd 4 (.int .i64)), (21, .nd 6 (.int .i64)), (22, .nd 7 .bool), (1, .nd 2 (.int .i64)), (6, .ptr 1 0), (4, .ptr 2 0)]) ?_ ?_ tb_ok ap_ok ?_
      · refine midN_in ?_ .nil _ ?_ ?_ ?_
        · exact (.cons rfl ⟨_, rfl, hx⟩ (.cons rfl (slOne hS) (.cons rfl ⟨_, rfl⟩ (.cons rfl ⟨_, rfl⟩ (.cons rfl ⟨_, rfl⟩ (.cons rfl s38_0.one (.cons rfl ⟨_, rfl⟩ (.cons rfl ⟨_, rfl⟩ .nil))))))))
        · exact (.cons (win_row r137 (dlCons (dNd rfl ⟨_, rfl, hx⟩) (dlCons (dNd rfl (slOne hS)) dlNil))) (.cons (win_row r138 (dlCons (dNd rfl ⟨_, rfl, hx⟩) (dlCons (dNd rfl s38_0.one) dlNil))) (.cons (win_own r139 (dlCons (dLit (by decide +kernel)) (dlCons (dLit rfl) dlNil))) .nil)))
        · exact ⟨(fun v hv h => (by simp at hv; rcases hv with rfl | rfl <;> first | (simp at h; done) | exact Apart.ne (by assumption) | exact (Apart.ne (by assumption)).symm)), ⟨(fun v hv h => (by simp at hv; rcases hv with rfl <;> first | (simp at h; done) | exact Apart.ne (by assumption) | exact (Apart.ne (by assumption)).symm)), ⟨(fun v hv => (by cases hv)), trivial⟩⟩⟩
        · exact .nil
      · exact (envEq b124 (dNd rfl ⟨_, rfl⟩) (envEq b125 (dPtr (l := p2) (o := 0) rfl) (envEq b126 (dPtr (l := p2) (o := 0) rfl) (envEq b127 (dNd rfl (slOne hS)) (envEq b128 (dNd rfl ⟨_, rfl⟩) (envEq b129 (dNd rfl ⟨_, rfl⟩) (envEq b131 (dNd rfl ⟨_, rfl⟩) (envEq b132 (dNd rfl ⟨_, rfl⟩) (envEq b133 (dPtr (l := p24) (o := 0) rfl) (envEq b134 (dPtr (l := p6) (o := 0) rfl) envNil))))))))))
      refine all1 (by kernel_rfl) ?_
      intro vs ls H141 E141 st hE
      have hfin : ms.filter (fun m => !lastLt t m) = keepTo (lastLt t) ms i38 := by rw [show i38 = ms.length by omega, keepTo_full]
      have gz : Grew H H141 := (grew_own g136 (st.inn.kept) ⟨op6, trivial⟩)
      have hc : forgetV x ms t = (x, ms.filter (fun m => !lastLt t m), 0) := by
        unfold forgetV
        rw [f23]; first | rfl | (rw [if_neg (by decide), if_pos (by omega)]) | (rw [if_neg (by decide), if_neg (by omega)])
      exact res_ex (by kernel_rfl) (end_same st.inn hE (.inr rfl) (a := .tuple [.agg [.flt .f32 x, acc38_0], .int .i64 0]) (by kernel_rfl) gz.next (by rw [hc]; exact ⟨gz, _, rfl, (by rw [show ms.filter (fun m => !lastLt t m) = (keepTo (lastLt t) ms i38) from hfin]; exact ((s140.keep st.inn.kept ⟨by assumption, trivial⟩)).toW), f38_0⟩))
  ·
    intro vs ls H142 E142 st hE
    have f143 : t < 0 := of_decide_eq_true (bfact (x := decide (t < 0)) st.inn 0 (by kernel_rfl))
    have f144 : (okMap x ms) = true := bfact st.inn 1 (by kernel_rfl)
    have gz : Grew H H142 := (grew_own g13 (st.inn.kept) ⟨op6, trivial⟩)
    have hc : forgetV x ms t = ((some 0), [], 2) := by
      unfold forgetV
      rw [f144]; first | rfl | (rw [if_neg (by decide), if_pos (by omega)]) | (rw [if_neg (by decide), if_neg (by omega)])
    exact res_ex (by kernel_rfl) (end_same st.inn hE (.inr rfl) (a := .tuple [.agg [.flt .f32 (some 0), .nilslice], .int .i64 2]) (by kernel_rfl) gz.next (by rw [hc]; exact ⟨gz, _, rfl, (.nil rfl), FreshS.nil⟩))
theorem k_impl_LeaveLighter (H : AHeap) (x : Option Nat) (hx : fOk .f32 x) (ms : List (List AV)) (hr : Recs KM ms) (S : AV) (hS : SlL H 9 ms S) (mxms : ms.length ≤ 1048576) (wt : Option Nat) (hw : fOk .f32 wt) : ACalls Try.prog 45 [.agg [.flt .f32 x, S], .flt .f32 wt] H fun r H' => Grew H H' ∧ ∃ S', r = .tuple [.agg [.flt .f32 (lighterV x ms wt).1, S'], .int .i64 (lighterV x ms wt).2.2] ∧ SlW H' 9 (lighterV x ms wt).2.1 S' ∧ FreshS H.next S' := by
  refine res_start h_impl_LeaveLighter (by simp) ?_
  refine run_mn (φ := φ0) (pm := pmR 0 [(.call 35 [.agg [.nd 0 (.flt .f32), .nd 1 .one]], .nd 3 .bool)] 0) 20 (nk := [(.atom 0, .flt .f32), (.atom 1, .one), (.atom 2, .flt .f32), (.atom 3, .bool)]) (fs := []) (xs := [.flt .f32 x, S, .flt .f32 wt, .bool (okMap x ms)]) (ws := []) (env := [(0, .agg [.nd 0 (.flt .f32), .nd 1 .one]), (1, .nd 2 (.flt .f32))]) ?_ ?_ tb_ok ap_ok ?_
  · refine midN_in ?_ .nil _ ?_ ?_ ?_
    · exact (.cons rfl ⟨_, rfl, hx⟩ (.cons rfl (slOne hS) (.cons rfl ⟨_, rfl, hw⟩ (.cons rfl ⟨_, rfl⟩ .nil))))
    · exact .nil
    · exact sepOk_ro rfl
    · exact (.cons (rule_call (args := [.agg [.flt .f32 x, S]]) (dlCons (dAgg (dlCons (dNd rfl ⟨_, rfl, hx⟩) (dlCons (dNd rfl (slOne hS)) dlNil))) dlNil) (dNd rfl ⟨_, rfl⟩) (fun H9 hk => k_impl_ValidMap H9 x hx S ms hr (hS.grew (Grew.trans (Grew.refl _) (hk.grew (Nat.le_refl _)))) (mx40 mxms))) .nil)
  · exact (envEq rfl (dAgg (dlCons (dNd rfl ⟨_, rfl, hx⟩) (dlCons (dNd rfl (slOne hS)) dlNil))) (envEq rfl (dNd rfl ⟨_, rfl, hw⟩) envNil))
  refine all3 (by kernel_rfl) ?_ ?_ ?_
  ·
    intro vs ls H1 E1 st hE
    have f2 : (okMap x ms) = false := bfact st.inn 0 (by kernel_rfl)
    have gz : Grew H H1 := (Grew.trans (Grew.refl _) (st.kept.grew (Nat.le_of_ble_eq_true (by kernel_rfl))))
    have hc : lighterV x ms wt = ((some 0), [], 1) := by
      unfold lighterV
      rw [f2]; rfl
    exact res_ex (by kernel_rfl) (end_same st.inn hE (.inr rfl) (a := .tuple [.agg [.flt .f32 (some 0), .nilslice], .int .i64 1]) (by kernel_rfl) gz.next (by rw [hc]; exact ⟨gz, _, rfl, (.nil rfl), FreshS.nil⟩))
  ·
    intro vs ls H3 E3 st hE
    have f4 : (ford .f32 wt wt == some .eq) = false := bfact st.inn 0 (by kernel_rfl)
    have f5 : (okMap x ms) = true := bfact st.inn 1 (by kernel_rfl)
    have gz : Grew H H3 := (Grew.trans (Grew.refl _) (st.kept.grew (Nat.le_of_ble_eq_true (by kernel_rfl))))
    have hc : lighterV x ms wt = ((some 0), [], 2) := by
      unfold lighterV
      rw [f5]; first | rfl | (rw [f4]; rfl)
    exact res_ex (by kernel_rfl) (end_same st.inn hE (.inr rfl) (a := .tuple [.agg [.flt .f32 (some 0), .nilslice], .int .i64 2]) (by kernel_rfl) gz.next (by rw [hc]; exact ⟨gz, _, rfl, (.nil rfl), FreshS.nil⟩))
  ·
    intro vs ls H6 E6 st hE
    have f7 : (ford .f32 wt wt == some .eq) = true := bfact st.inn 0 (by kernel_rfl)
    have f8 : (okMap x ms) = true := bfact st.inn 1 (by kernel_rfl)
    obtain ⟨p9, e10, r11, n12⟩ := ptr_of st.inn hE 4 2 (by kernel_rfl) (ds := [.flt .f32 (some 0), .nilslice]) (by kernel_rfl)
    have op9 : H.next ≤ p9 := Nat.le_trans (Nat.le_refl _) (n12 (Nat.le_of_ble_eq_true rfl))
    obtain ⟨p13, e14, r15, n16⟩ := ptr_of st.inn hE 3 1 (by kernel_rfl) (ds := [.flt .f32 wt]) (by kernel_rfl)
    have op13 : H.next ≤ p13 := Nat.le_trans (Nat.le_refl _) (n16 (Nat.le_of_ble_eq_true rfl))
    have ne17 : Apart p9 p13 := ⟨ptr_ne st.inn hE 4 2 3 1 (by kernel_rfl) (by kernel_rfl) (cs := [.lit (.flt .f32 (some 0)), .lit .nilslice]) (by kernel_rfl) (by decide) e10 e14⟩
    have b18 : E6 15 = .agg [.flt .f32 x, S] := env_of st.inn hE 15 (by kernel_rfl)
    have b19 : E6 16 = .func 82 [] [.ptr p13 0] := fn_of1 (j := 1) st.inn hE 16 (by kernel_rfl) 3 (by kernel_rfl) e14
    have g20 : Grew H H6 := (st.kept.grew (Nat.le_of_ble_eq_true (by kernel_rfl)))
    have g21 : Grew H H6 := Grew.trans (Grew.refl _) g20
    clear st hE vs ls
    refine res_call (d := (some 17)) (f := 79) (args := [.tmp 15, .tmp 16]) (by kernel_rfl) (R := fun z H' => Grew H6 H' ∧ ∃ S', z = .agg [.flt .f32 x, S'] ∧ SlW H' 9 (ms.filter fun m => !(lightB wt) m) S' ∧ FreshS H6.next S') ?_ ?_
    · show ACalls _ _ [E6 15, E6 16] _ _
      rw [b18, b19]
      exact k_leavingLight H6 x hx ms hr S (hS.grew g21) mxms wt hw p13 r15
    rintro z H22 ⟨gH22, S23, rfl, sS23, fS23⟩
    have ne24 : ApartL (S23) p9 := fS23.apartL (H6.lt_of_get r11)
    have ne25 : ApartL (S23) p13 := fS23.apartL (H6.lt_of_get r15)
    have fr26 : FreshS H.next (S23) := fS23.mono g21.next
    have g27 : Grew H H22 := Grew.trans g21 gH22
    have r28 := gH22.at r11
    have r29 := gH22.at r15
    refine run_mn (φ := φ0) (pm := pmR 1 [] 0) 20 (nk := [(.atom 0, .flt .f32), (.atom 1, .one), (.atom 2, .flt .f32), (.atom 3, .bool), (.atom 4, .one)]) (fs := []) (xs := [.flt .f32 x, S, .flt .f32 wt, .bool (okMap x ms), S23]) (ws := [⟨p13, 0, [.nd 2 (.flt .f32)], false⟩, ⟨p9, 0, [.lit (.flt .f32 (some 0)), .lit .nilslice], true⟩]) (env := [(15, .agg [.nd 0 (.flt .f32), .nd 1 .one]), (16, .fn 82 [] [.ptr 0 0]), (4, .ptr 1 0), (3, .ptr 0 0), (17, .agg [.nd 0 (.flt .f32), .nd 4 .one])]) ?_ ?_ tb_ok ap_ok ?_
    · refine midN_in ?_ .nil _ ?_ ?_ ?_
      · exact (.cons rfl ⟨_, rfl, hx⟩ (.cons rfl (slOne hS) (.cons rfl ⟨_, rfl, hw⟩ (.cons rfl ⟨_, rfl⟩ (.cons rfl sS23.one .nil)))))
      · exact (.cons (win_row r29 (dlCons (dNd rfl ⟨_, rfl, hw⟩) dlNil)) (.cons (win_own r28 (dlCons (dLit (by decide +kernel)) (dlCons (dLit rfl) dlNil))) .nil))
      · exact ⟨(fun v hv h => (by simp at hv; rcases hv with rfl <;> first | (simp at h; done) | exact Apart.ne (by assumption) | exact (Apart.ne (by assumption)).symm)), ⟨(fun v hv => (by cases hv)), trivial⟩⟩
      · exact .nil
    · exact (envEq (put_ne rfl b18) (dAgg (dlCons (dNd rfl ⟨_, rfl, hx⟩) (dlCons (dNd rfl (slOne hS)) dlNil))) (envEq (put_ne rfl b19) (dFn' dlNil (dlCons (dPtr (l := p13) (o := 0) rfl) dlNil)) (envEq (put_ne rfl e10) (dPtr (l := p9) (o := 0) rfl) (envEq (put_ne rfl e14) (dPtr (l := p13) (o := 0) rfl) (envEq put_same (dAgg (dlCons (dNd rfl ⟨_, rfl, hx⟩) (dlCons (dNd rfl sS23.one) dlNil))) envNil)))))
    refine all1 (by kernel_rfl) ?_
    intro vs ls H30 E30 st hE
    have gz : Grew H H30 := (grew_own g27 (st.inn.kept) ⟨op9, trivial⟩)
    have hc : lighterV x ms wt = (x, ms.filter (fun m => !lightB wt m), 0) := by
      unfold lighterV
      rw [f8]; first | rfl | (rw [f7]; rfl)
    exact res_ex (by kernel_rfl) (end_same st.inn hE (.inr rfl) (a := .tuple [.agg [.flt .f32 x, S23], .int .i64 0]) (by kernel_rfl) gz.next (by rw [hc]; exact ⟨gz, _, rfl, (sS23.keep st.inn.kept ⟨by assumption, trivial⟩), fr26⟩))
theorem k_spec_LeaveLighter (H : AHeap) (x : Option Nat) (hx : fOk .f32 x) (ms : List (List AV)) (hr : Recs KM ms) (S : AV) (hS : SlL H 9 ms S) (mxms : ms.length ≤ 1048576) (wt : Option Nat) (hw : fOk .f32 wt) : ACalls Try.prog 44 [.agg [.flt .f32 x, S], .flt .f32 wt] H fun r H' => Grew H H' ∧ ∃ S', r = .tuple [.agg [.flt .f32 (lighterV x ms wt).1, S'], .int .i64 (lighterV x ms wt).2.2] ∧ SlW H' 9 (lighterV x ms wt).2.1 S' ∧ FreshS H.next S' := by
  refine res_start h_spec_LeaveLighter (by simp) ?_
  refine run_mn (φ := φ0) (pm := pmR 0 [] 0) 20 (nk := [(.atom 0, .flt .f32), (.atom 1, .one), (.atom 2, .flt .f32)]) (fs := []) (xs := [.flt .f32 x, S, .flt .f32 wt]) (ws := []) (env := [(0, .agg [.nd 0 (.flt .f32), .nd 1 .one]), (1, .nd 2 (.flt .f32))]) ?_ ?_ tb_ok ap_ok ?_
  · refine midN_in ?_ .nil _ ?_ ?_ ?_
    · exact (.cons rfl ⟨_, rfl, hx⟩ (.cons rfl (slOne hS) (.cons rfl ⟨_, rfl, hw⟩ .nil)))
    · exact .nil
    · exact sepOk_ro rfl
    · exact .nil
  · exact (envEq rfl (dAgg (dlCons (dNd rfl ⟨_, rfl, hx⟩) (dlCons (dNd rfl (slOne hS)) dlNil))) (envEq rfl (dNd rfl ⟨_, rfl, hw⟩) envNil))
  refine all1 (by kernel_rfl) ?_
  intro vs ls H1 E1 st hE
  obtain ⟨p2, e3, r4, n5⟩ := ptr_of st.inn hE 2 0 (by kernel_rfl) (ds := [.flt .f32 x, S]) (by kernel_rfl)
  have op2 : H.next ≤ p2 := Nat.le_trans (Nat.le_refl _) (n5 (Nat.le_of_ble_eq_true rfl))
  obtain ⟨p6, e7, r8, n9⟩ := ptr_of st.inn hE 4 1 (by kernel_rfl) (ds := [.flt .f32 (some 0), .nilslice]) (by kernel_rfl)
  have op6 : H.next ≤ p6 := Nat.le_trans (Nat.le_refl _) (n9 (Nat.le_of_ble_eq_true rfl))
  have ne10 : Apart p2 p6 := ⟨ptr_ne st.inn hE 2 0 4 1 (by kernel_rfl) (by kernel_rfl) (cs := [.nd 0 (.flt .f32), .nd 1 .one]) (by kernel_rfl) (by decide) e3 e7⟩
  have b11 : E1 1 = .flt .f32 wt := env_of st.inn hE 1 (by kernel_rfl)
  have g12 : Grew H H1 := (st.kept.grew (Nat.le_of_ble_eq_true (by kernel_rfl)))
  have g13 : Grew H H1 := Grew.trans (Grew.refl _) g12
  clear st hE vs ls
  refine res_call (d := (some 8)) (f := 72) (args := [.tmp 2]) (by kernel_rfl) (R := fun z H' => z = .bool (okMap x ms) ∧ H' = H1) ?_ ?_
  · show ACalls _ _ [E1 2] _ _
    rw [e3]
    exact k_l05Ok H1 p2 x hx S true ms hr r4 (hS.grew g13) (mx40 mxms)
  rintro z H1 ⟨rfl, rfl⟩
  refine run_mn (φ := φ0) (pm := pmR 1 [] 0) 20 (nk := [(.atom 0, .flt .f32), (.atom 1, .one), (.atom 2, .flt .f32), (.atom 3, .bool)]) (fs := []) (xs := [.flt .f32 x, S, .flt .f32 wt, .bool (okMap x ms)]) (ws := [⟨p2, 0, [.nd 0 (.flt .f32), .nd 1 .one], false⟩, ⟨p6, 0, [.lit (.flt .f32 (some 0)), .lit .nilslice], true⟩]) (env := [(2, .ptr 0 0), (4, .ptr 1 0), (1, .nd 2 (.flt .f32)), (8, .nd 3 .bool)]) ?_ ?_ tb_ok ap_ok ?_
  · refine midN_in ?_ .nil _ ?_ ?_ ?_
    · exact (.cons rfl ⟨_, rfl, hx⟩ (.cons rfl (slOne hS) (.cons rfl ⟨_, rfl, hw⟩ (.cons rfl ⟨_, rfl⟩ .nil))))
    · exact (.cons (win_row r4 (dlCons (dNd rfl ⟨_, rfl, hx⟩) (dlCons (dNd rfl (slOne hS)) dlNil))) (.cons (win_own r8 (dlCons (dLit (by decide +kernel)) (dlCons (dLit rfl) dlNil))) .nil))
    · exact ⟨(fun v hv h => (by simp at hv; rcases hv with rfl <;> first | (simp at h; done) | exact Apart.ne (by assumption) | exact (Apart.ne (by assumption)).symm)), ⟨(fun v hv => (by cases hv)), trivial⟩⟩
    · exact .nil
  · exact (envEq (put_ne rfl e3) (dPtr (l := p2) (o := 0) rfl) (envEq (put_ne rfl e7) (dPtr (l := p6) (o := 0) rfl) (envEq (put_ne rfl b11) (dNd rfl ⟨_, rfl, hw⟩) (envEq put_same (dNd rfl ⟨_, rfl⟩) envNil))))
  refine all3 (by kernel_rfl) ?_ ?_ ?_
  ·
    intro vs ls H14 E14 st hE
    have f15 : (okMap x ms) = false := bfact st.inn 0 (by kernel_rfl)
    have gz : Grew H H14 := (grew_own g13 (st.inn.kept) ⟨op6, trivial⟩)
    have hc : lighterV x ms wt = ((some 0), [], 1) := by
      unfold lighterV
      rw [f15]; rfl
    exact res_ex (by kernel_rfl) (end_same st.inn hE (.inr rfl) (a := .tuple [.agg [.flt .f32 (some 0), .nilslice], .int .i64 1]) (by kernel_rfl) gz.next (by rw [hc]; exact ⟨gz, _, rfl, (.nil rfl), FreshS.nil⟩))
  ·
    intro vs ls H16 E16 st hE
    have f17 : (ford .f32 wt wt == some .eq) = false := bfact st.inn 0 (by kernel_rfl)
    have f18 : (okMap x ms) = true := bfact st.inn 1 (by kernel_rfl)
    have gz : Grew H H16 := (grew_own g13 (st.inn.kept) ⟨op6, trivial⟩)
    have hc : lighterV x ms wt = ((some 0), [], 2) := by
      unfold lighterV
      rw [f18]; first | rfl | (rw [f17]; rfl)
    exact res_ex (by kernel_rfl) (end_same st.inn hE (.inr rfl) (a := .tuple [.agg [.flt .f32 (some 0), .nilslice], .int .i64 2]) (by kernel_rfl) gz.next (by rw [hc]; exact ⟨gz, _, rfl, (.nil rfl), FreshS.nil⟩))
  ·
    intro vs ls H19 E19 st hE
    have f20 : (ford .f32 wt wt == some .eq) = true := bfact st.inn 0 (by kernel_rfl)
    have f21 : (okMap x ms) = true := bfact st.inn 1 (by kernel_rfl)
    obtain ⟨p22, e23, r24, n25⟩ := ptr_of st.inn hE 6 2 (by kernel_rfl) (ds := [.flt .f32 x, .nilslice]) (by kernel_rfl)
    have op22 : H.next ≤ p22 := Nat.le_trans g13.next (n25 (Nat.le_of_ble_eq_true rfl))
    have ne26 : Apart p22 p2 := ⟨Nat.ne_of_gt (Nat.lt_of_lt_of_le (H1.lt_of_get r4) (n25 (Nat.le_of_ble_eq_true rfl)))⟩
    have ne27 : Apart p22 p6 := ⟨Nat.ne_of_gt (Nat.lt_of_lt_of_le (H1.lt_of_get r8) (n25 (Nat.le_of_ble_eq_true rfl)))⟩
    have b28 : E19 7 = .int .i64 0 := env_of st.inn hE 7 (by kernel_rfl)
    have b29 : E19 2 = .ptr p2 0 := env_of st.inn hE 2 (by kernel_rfl)
    have b30 : E19 1 = .flt .f32 wt := env_of st.inn hE 1 (by kernel_rfl)
    have b31 : E19 4 = .ptr p6 0 := env_of st.inn hE 4 (by kernel_rfl)
    have g32 : Grew H1 H19 := (st.kept.grew (Nat.le_of_ble_eq_true (by kernel_rfl)))
    have g33 : Grew H H19 := Grew.trans g13 g32
    have r34 := g32.at r4
    have r35 := g32.at r8
    clear st hE vs ls
    refine res_loop (by kernel_rfl) (fun z E H' => ∃ (i : Nat) (acc36_0 : AV), z + i = ms.length ∧ E 2 = .ptr p2 0 ∧ E 1 = .flt .f32 wt ∧ E 6 = .ptr p22 0 ∧ E 4 = .ptr p6 0 ∧ E 7 = .int .i64 (i : Int) ∧ Grew H H' ∧ H'.get p2 = some (.row [.flt .f32 x, S] true) ∧ H'.get p22 = some (.row [.flt .f32 x, acc36_0] true) ∧ H'.get p6 = some (.row [.flt .f32 (some 0), .nilslice] true) ∧ SlF H' 9 (keepTo (lightB wt) ms i) acc36_0 ∧ FreshS H.next acc36_0 ∧ ApartL acc36_0 p2 ∧ ApartL acc36_0 p22 ∧ ApartL acc36_0 p6) (ms.length) ⟨0, .nilslice, by omega, b29, b30, e23, b31, b28, g33, r34, r24, r35, (.nil rfl), FreshS.nil, ApartL.nil, ApartL.nil, ApartL.nil⟩ ?_
    rintro z36 Ei36 Hi36 ⟨i36, acc36_0, hz36, c36_2, c36_1, c36_6, c36_4, ci36, gt36, r36_0, r36_1, r36_2, s36_0, f36_0, ap36_0_0, ap36_0_1, ap36_0_2⟩
    have hln36_0 : ((keepTo (lightB wt) ms i36)).length ≤ i36 := keepTo_le (by omega)
    refine run_mn (φ := φ0) (pm := pmR 2 [(.len (.nd 1 .one), .nd 6 (.int .i64))] 0) 20 (nk := [(.atom 0, .flt .f32), (.atom 1, .one), (.atom 2, .flt .f32), (.atom 3, .bool), (.atom 4, .int .i64), (.atom 5, .one), (.atom 6, .int .i64)]) (fs := []) (xs := [.flt .f32 x, S, .flt .f32 wt, .bool (okMap x ms), .int .i64 (i36 : Int), acc36_0, .int .i64 (ms.length : Int)]) (ws := [⟨p2, 0, [.nd 0 (.flt .f32), .nd 1 .one], false⟩, ⟨p22, 0, [.nd 0 (.flt .f32), .nd 5 .one], false⟩, ⟨p6, 0, [.lit (.flt .f32 (some 0)), .lit .nilslice], true⟩]) (env := [(2, .ptr 0 0), (1, .nd 2 (.flt .f32)), (6, .ptr 1 0), (4, .ptr 2 0), (7, .nd 4 (.int .i64))]) ?_ ?_ tb_ok ap_ok ?_
    · refine midN_in ?_ .nil _ ?_ ?_ ?_
      · exact (.cons rfl ⟨_, rfl, hx⟩ (.cons rfl (slOne hS) (.cons rfl ⟨_, rfl, hw⟩ (.cons rfl ⟨_, rfl⟩ (.cons rfl ⟨_, rfl⟩ (.cons rfl s36_0.one (.cons rfl ⟨_, rfl⟩ .nil)))))))
      · exact (.cons (win_row r36_0 (dlCons (dNd rfl ⟨_, rfl, hx⟩) (dlCons (dNd rfl (slOne hS)) dlNil))) (.cons (win_row r36_1 (dlCons (dNd rfl ⟨_, rfl, hx⟩) (dlCons (dNd rfl s36_0.one) dlNil))) (.cons (win_own r36_2 (dlCons (dLit (by decide +kernel)) (dlCons (dLit rfl) dlNil))) .nil)))
      · exact ⟨(fun v hv h => (by simp at hv; rcases hv with rfl | rfl <;> first | (simp at h; done) | exact Apart.ne (by assumption) | exact (Apart.ne (by assumption)).symm)), ⟨(fun v hv h => (by simp at hv; rcases hv with rfl <;> first | (simp at h; done) | exact Apart.ne (by assumption) | exact (Apart.ne (by assumption)).symm)), ⟨(fun v hv => (by cases hv)), trivial⟩⟩⟩
      · exact (.cons (⟨_, _, (dNd rfl (slOne hS)), (dNd rfl ⟨_, rfl⟩), slLen hS⟩) .nil)
    · exact (envEq c36_2 (dPtr (l := p2) (o := 0) rfl) (envEq c36_1 (dNd rfl ⟨_, rfl, hw⟩) (envEq c36_6 (dPtr (l := p22) (o := 0) rfl) (envEq c36_4 (dPtr (l := p6) (o := 0) rfl) (envEq ci36 (dNd rfl ⟨_, rfl⟩) envNil)))))
    refine all2 (by kernel_rfl) ?_ ?_
    ·
      intro vs ls H37 E37 st hE
      have f38 : (i36 : Int) < (ms.length : Int) := of_decide_eq_true (bfact (x := decide ((i36 : Int) < (ms.length : Int))) st.inn 0 (by kernel_rfl))
      have b39 : E37 26 = S := env_of st.inn hE 26 (by kernel_rfl)
      have b40 : E37 27 = .int .i64 (i36 : Int) := env_of st.inn hE 27 (by kernel_rfl)
      have b41 : E37 1 = .flt .f32 wt := env_of st.inn hE 1 (by kernel_rfl)
      have b42 : E37 6 = .ptr p22 0 := env_of st.inn hE 6 (by kernel_rfl)
      have b43 : E37 2 = .ptr p2 0 := env_of st.inn hE 2 (by kernel_rfl)
      have b44 : E37 7 = .int .i64 (i36 : Int) := env_of st.inn hE 7 (by kernel_rfl)
      have b45 : E37 4 = .ptr p6 0 := env_of st.inn hE 4 (by kernel_rfl)
      have g46 : Grew Hi36 H37 := (st.kept.grew (Nat.le_of_ble_eq_true (by kernel_rfl)))
      have g47 : Grew H H37 := Grew.trans gt36 g46
      have r48 := g46.at r36_0
      have r49 := g46.at r36_1
      have r50 := g46.at r36_2
      have s51 := s36_0.grew g46
      clear st hE vs ls
      have hlt52 : i36 < ms.length := by omega
      obtain ⟨lS52, cap52, rest52, wr52, eS52, gB52⟩ := hS.isSl hlt52
      have gS52 := g47.at gB52
      have ne53 : Apart p2 lS52 := ⟨Nat.ne_of_gt (Nat.lt_of_lt_of_le (H.lt_of_get gB52) op2)⟩
      have ne54 : Apart p22 lS52 := ⟨Nat.ne_of_gt (Nat.lt_of_lt_of_le (H.lt_of_get gB52) op22)⟩
      have ne55 : Apart p6 lS52 := ⟨Nat.ne_of_gt (Nat.lt_of_lt_of_le (H.lt_of_get gB52) op6)⟩
      obtain ⟨v52_0, v52_1, v52_2, v52_3, v52_4, v52_5, v52_6, v52_7, v52_8, hm52, ho52_3, ho52_4, ho52_5, ho52_6⟩ := partsMark (hr.get hlt52)
      have he52 : ms.getD i36 [] = [.int .i32 v52_0, .int .i32 v52_1, .int .i32 v52_2, .flt .f32 v52_3, .flt .f32 v52_4, .flt .f32 v52_5, .flt .f32 v52_6, .int .i64 v52_7, .int .i64 v52_8] := by rw [← hm52]; simp [List.getD_eq_getElem?_getD, hlt52]
      refine run_mn (φ := φ0) (pm := pmR 3 [(.ia 9 (.nd 1 .one) (.nd 4 (.int .i64)), .ptr 2 0)] 0) 20 (nk := [(.atom 0, .flt .f32), (.atom 1, .one), (.atom 2, .flt .f32), (.atom 3, .bool), (.atom 4, .int .i64), (.atom 5, .one), (.atom 6, .int .i64), (.atom 7, .int .i32), (.atom 8, .int .i32), (.atom 9, .int .i32), (.atom 10, .flt .f32), (.atom 11, .flt .f32), (.atom 12, .flt .f32), (.atom 13, .flt .f32), (.atom 14, .int .i64), (.atom 15, .int .i64)]) (fs := []) (xs := [.flt .f32 x, S, .flt .f32 wt, .bool (okMap x ms), .int .i64 (i36 : Int), acc36_0, .int .i64 (ms.length : Int), .int .i32 v52_0, .int .i32 v52_1, .int .i32 v52_2, .flt .f32 v52_3, .flt .f32 v52_4, .flt .f32 v52_5, .flt .f32 v52_6, .int .i64 v52_7, .int .i64 v52_8]) (ws := [⟨p2, 0, [.nd 0 (.flt .f32), .nd 1 .one], false⟩, ⟨p22, 0, [.nd 0 (.flt .f32), .nd 5 .one], false⟩, ⟨lS52, (i36 * 9), [.nd 7 (.int .i32), .nd 8 (.int .i32), .nd 9 (.int .i32), .nd 10 (.flt .f32), .nd 11 (.flt .f32), .nd 12 (.flt .f32), .nd 13 (.flt .f32), .nd 14 (.int .i64), .nd 15 (.int .i64)], false⟩, ⟨p6, 0, [.lit (.flt .f32 (some 0)), .lit .nilslice], true⟩]) (env := [(26, .nd 1 .one), (27, .nd 4 (.int .i64)), (1, .nd 2 (.flt .f32)), (6, .ptr 1 0), (2, .ptr 0 0), (7, .nd 4 (.int .i64)), (4, .ptr 3 0)]) ?_ ?_ tb_ok ap_ok ?_
      · refine midN_in ?_ .nil _ ?_ ?_ ?_
        · exact (.cons rfl ⟨_, rfl, hx⟩ (.cons rfl (slOne hS) (.cons rfl ⟨_, rfl, hw⟩ (.cons rfl ⟨_, rfl⟩ (.cons rfl ⟨_, rfl⟩ (.cons rfl s36_0.one (.cons rfl ⟨_, rfl⟩ (.cons rfl ⟨_, rfl⟩ (.cons rfl ⟨_, rfl⟩ (.cons rfl ⟨_, rfl⟩ (.cons rfl ⟨_, rfl, ho52_3⟩ (.cons rfl ⟨_, rfl, ho52_4⟩ (.cons rfl ⟨_, rfl, ho52_5⟩ (.cons rfl ⟨_, rfl, ho52_6⟩ (.cons rfl ⟨_, rfl⟩ (.cons rfl ⟨_, rfl⟩ .nil))))))))))))))))
        · exact (.cons (win_row r48 (dlCons (dNd rfl ⟨_, rfl, hx⟩) (dlCons (dNd rfl (slOne hS)) dlNil))) (.cons (win_row r49 (dlCons (dNd rfl ⟨_, rfl, hx⟩) (dlCons (dNd rfl s36_0.one) dlNil))) (.cons (win_elem hr gS52 hlt52 rfl (by rw [hm52]; exact (dlCons (dNd rfl ⟨_, rfl⟩) (dlCons (dNd rfl ⟨_, rfl⟩) (dlCons (dNd rfl ⟨_, rfl⟩) (dlCons (dNd rfl ⟨_, rfl, ho52_3⟩) (dlCons (dNd rfl ⟨_, rfl, ho52_4⟩) (dlCons (dNd rfl ⟨_, rfl, ho52_5⟩) (dlCons (dNd rfl ⟨_, rfl, ho52_6⟩) (dlCons (dNd rfl ⟨_, rfl⟩) (dlCons (dNd rfl ⟨_, rfl⟩) dlNil))))))))))) (.cons (win_own r50 (dlCons (dLit (by decide +kernel)) (dlCons (dLit rfl) dlNil))) .nil))))
        · exact ⟨(fun v hv h => (by simp at hv; rcases hv with rfl | rfl | rfl <;> first | (simp at h; done) | exact Apart.ne (by assumption) | exact (Apart.ne (by assumption)).symm)), ⟨(fun v hv h => (by simp at hv; rcases hv with rfl | rfl <;> first | (simp at h; done) | exact Apart.ne (by assumption) | exact (Apart.ne (by assumption)).symm)), ⟨(fun v hv h => (by simp at hv; rcases hv with rfl <;> first | (simp at h; done) | exact Apart.ne (by assumption) | exact (Apart.ne (by assumption)).symm)), ⟨(fun v hv => (by cases hv)), trivial⟩⟩⟩⟩
        · exact (.cons (rule_iaS (k := i36) (dNd rfl (slOne hS)) eS52 (dNd rfl ⟨_, rfl⟩) hlt52 rfl) .nil)
      · exact (envEq b39 (dNd rfl (slOne hS)) (envEq b40 (dNd rfl ⟨_, rfl⟩) (envEq b41 (dNd rfl ⟨_, rfl, hw⟩) (envEq b42 (dPtr (l := p22) (o := 0) rfl) (envEq b43 (dPtr (l := p2) (o := 0) rfl) (envEq b44 (dNd rfl ⟨_, rfl⟩) (envEq b45 (dPtr (l := p6) (o := 0) rfl) envNil)))))))
      refine all2 (by kernel_rfl) ?_ ?_
      ·
        intro vs ls H56 E56 st hE
        have f57 : (ford .f32 v52_6 wt == some .lt) = false := bfact st.inn 0 (by kernel_rfl)
        obtain ⟨p58, e59, r60, n61⟩ := sl_of st.inn hE 41 4 1 1 9 (by kernel_rfl) (ds := [.int .i32 v52_0, .int .i32 v52_1, .int .i32 v52_2, .flt .f32 v52_3, .flt .f32 v52_4, .flt .f32 v52_5, .flt .f32 v52_6, .int .i64 v52_7, .int .i64 v52_8]) (by kernel_rfl)
        have op58 : H.next ≤ p58 := Nat.le_trans g47.next (n61 (Nat.le_of_ble_eq_true rfl))
        have ne62 : Apart p58 p2 := ⟨Nat.ne_of_gt (Nat.lt_of_lt_of_le (H37.lt_of_get r48) (n61 (Nat.le_of_ble_eq_true rfl)))⟩
        have ne63 : Apart p58 p22 := ⟨Nat.ne_of_gt (Nat.lt_of_lt_of_le (H37.lt_of_get r49) (n61 (Nat.le_of_ble_eq_true rfl)))⟩
        have ne64 : Apart p58 p6 := ⟨Nat.ne_of_gt (Nat.lt_of_lt_of_le (H37.lt_of_get r50) (n61 (Nat.le_of_ble_eq_true rfl)))⟩
        have ne65 : ApartL (acc36_0) p58 := s51.apart_new (n61 (Nat.le_of_ble_eq_true rfl))
        have b66 : E56 35 = acc36_0 := env_of st.inn hE 35 (by kernel_rfl)
        have b67 : E56 6 = .ptr p22 0 := env_of st.inn hE 6 (by kernel_rfl)
        have b68 : E56 7 = .int .i64 (i36 : Int) := env_of st.inn hE 7 (by kernel_rfl)
        have b69 : E56 2 = .ptr p2 0 := env_of st.inn hE 2 (by kernel_rfl)
        have b70 : E56 1 = .flt .f32 wt := env_of st.inn hE 1 (by kernel_rfl)
        have b71 : E56 4 = .ptr p6 0 := env_of st.inn hE 4 (by kernel_rfl)
        have g72 : Grew H37 H56 := (st.kept.grew (Nat.le_of_ble_eq_true (by kernel_rfl)))
        have g73 : Grew H H56 := Grew.trans g47 g72
        have r74 := g72.at r48
        have r75 := g72.at r49
        have r77 := g72.at r50
        have s78 := s51.grew g72
        clear st hE vs ls
        refine res_appendK (free := true) (d := (some 42)) (sz := 9) (bytes := 48) (x := .tmp 35) (y := .tmp 41) (by kernel_rfl) (S := acc36_0) (ms := (keepTo (lightB wt) ms i36)) (ys := [[.int .i32 v52_0, .int .i32 v52_1, .int .i32 v52_2, .flt .f32 v52_3, .flt .f32 v52_4, .flt .f32 v52_5, .flt .f32 v52_6, .int .i64 v52_7, .int .i64 v52_8]]) (by show E56 35 = _; exact b66) s78 (keepTo_recs hr i36).len (by show srcCells _ _ (E56 41) = _; rw [e59]; exact src_one r60 rfl) (recs_one (ks := KM) (Recs.one (ks := KM) (.cons ⟨_, rfl⟩ (.cons ⟨_, rfl⟩ (.cons ⟨_, rfl⟩ (.cons ⟨_, rfl, ho52_3⟩ (.cons ⟨_, rfl, ho52_4⟩ (.cons ⟨_, rfl, ho52_5⟩ (.cons ⟨_, rfl, ho52_6⟩ (.cons ⟨_, rfl⟩ (.cons ⟨_, rfl⟩ .nil)))))))))) rfl) (by show (2 * ((keepTo (lightB wt) ms i36).length + 1) + 192) * 48 ≤ 281474976710656; omega) ?_
        intro S79 H80 sS79 fS79 oS79
        have ne81 : ApartL (S79) p2 := fS79.apartL (H56.lt_of_get r74) (by assumption)
        have ne82 : ApartL (S79) p22 := fS79.apartL (H56.lt_of_get r75) (by assumption)
        have ne83 : ApartL (S79) p58 := fS79.apartL (H56.lt_of_get r60) (by assumption)
        have ne84 : ApartL (S79) p6 := fS79.apartL (H56.lt_of_get r77) (by assumption)
        have fr85 : FreshS H.next (S79) := fS79.fresh f36_0 g73.next
        have g86 : Grew H H80 := OnlyS.own g73 f36_0 oS79
        have r87 := oS79.at r74 (by assumption)
        have r88 := oS79.at r75 (by assumption)
        have r89 := oS79.at r60 (by assumption)
        have r90 := oS79.at r77 (by assumption)
        refine ⟨.inl rfl, ?_⟩
        refine run_mn (φ := φ0) (pm := pmR 2 [] 0) 20 (nk := [(.atom 0, .flt .f32), (.atom 1, .one), (.atom 2, .flt .f32), (.atom 3, .bool), (.atom 4, .int .i64), (.atom 5, .one), (.atom 6, .int .i64), (.atom 7, .int .i32), (.atom 8, .int .i32), (.atom 9, .int .i32), (.atom 10, .flt .f32), (.atom 11, .flt .f32), (.atom 12, .flt .f32), (.atom 13, .flt .f32), (.atom 14, .int .i64), (.atom 15, .int .i64), (.atom 16, .one)]) (fs := []) (xs := [.flt .f32 x, S, .flt .f32 wt, .bool (okMap x ms), .int .i64 (i36 : Int), acc36_0, .int .i64 (ms.length : Int), .int .i32 v52_0, .int .i32 v52_1, .int .i32 v52_2, .flt .f32 v52_3, .flt .f32 v52_4, .flt .f32 v52_5, .flt .f32 v52_6, .int .i64 v52_7, .int .i64 v52_8, S79]) (ws := [⟨p2, 0, [.nd 0 (.flt .f32), .nd 1 .one], false⟩, ⟨p58, 0, [.nd 7 (.int .i32), .nd 8 (.int .i32), .nd 9 (.int .i32), .nd 10 (.flt .f32), .nd 11 (.flt .f32), .nd 12 (.flt .f32), .nd 13 (.flt .f32), .nd 14 (.int .i64), .nd 15 (.int .i64)], false⟩, ⟨p6, 0, [.lit (.flt .f32 (some 0)), .lit .nilslice], true⟩, ⟨p22, 0, [.nd 0 (.flt .f32), .nd 5 .one], true⟩]) (env := [(35, .nd 5 .one), (41, .sl 1 0 1 1 9), (6, .ptr 3 0), (7, .nd 4 (.int .i64)), (2, .ptr 0 0), (1, .nd 2 (.flt .f32)), (4, .ptr 2 0), (42, .nd 16 .one)]) ?_ ?_ tb_ok ap_ok ?_
        · refine midN_in ?_ .nil _ ?_ ?_ ?_
          · exact (.cons rfl ⟨_, rfl, hx⟩ (.cons rfl (slOne hS) (.cons rfl ⟨_, rfl, hw⟩ (.cons rfl ⟨_, rfl⟩ (.cons rfl ⟨_, rfl⟩ (.cons rfl s36_0.one (.cons rfl ⟨_, rfl⟩ (.cons rfl ⟨_, rfl⟩ (.cons rfl ⟨_, rfl⟩ (.cons rfl ⟨_, rfl⟩ (.cons rfl ⟨_, rfl, ho52_3⟩ (.cons rfl ⟨_, rfl, ho52_4⟩ (.cons rfl ⟨_, rfl, ho52_5⟩ (.cons rfl ⟨_, rfl, ho52_6⟩ (.cons rfl ⟨_, rfl⟩ (.cons rfl ⟨_, rfl⟩ (.cons rfl sS79.one .nil)))))))))))))))))
          · exact (.cons (win_row r87 (dlCons (dNd rfl ⟨_, rfl, hx⟩) (dlCons (dNd rfl (slOne hS)) dlNil))) (.cons (win_row r89 (dlCons (dNd rfl ⟨_, rfl⟩) (dlCons (dNd rfl ⟨_, rfl⟩) (dlCons (dNd rfl ⟨_, rfl⟩) (dlCons (dNd rfl ⟨_, rfl, ho52_3⟩) (dlCons (dNd rfl ⟨_, rfl, ho52_4⟩) (dlCons (dNd rfl ⟨_, rfl, ho52_5⟩) (dlCons (dNd rfl ⟨_, rfl, ho52_6⟩) (dlCons (dNd rfl ⟨_, rfl⟩) (dlCons (dNd rfl ⟨_, rfl⟩) dlNil)))))))))) (.cons (win_own r90 (dlCons (dLit (by decide +kernel)) (dlCons (dLit rfl) dlNil))) (.cons (win_own r88 (dlCons (dNd rfl ⟨_, rfl, hx⟩) (dlCons (dNd rfl s36_0.one) dlNil))) .nil))))
          · exact ⟨(fun v hv h => (by simp at hv; rcases hv with rfl | rfl | rfl <;> first | (simp at h; done) | exact Apart.ne (by assumption) | exact (Apart.ne (by assumption)).symm)), ⟨(fun v hv h => (by simp at hv; rcases hv with rfl | rfl <;> first | (simp at h; done) | exact Apart.ne (by assumption) | exact (Apart.ne (by assumption)).symm)), ⟨(fun v hv h => (by simp at hv; rcases hv with rfl <;> first | (simp at h; done) | exact Apart.ne (by assumption) | exact (Apart.ne (by assumption)).symm)), ⟨(fun v hv => (by cases hv)), trivial⟩⟩⟩⟩
          · exact .nil
        · exact (envEq (put_ne rfl b66) (dNd rfl s36_0.one) (envEq (put_ne rfl e59) (dSl' (l := p58) (o := 0) rfl) (envEq (put_ne rfl b67) (dPtr (l := p22) (o := 0) rfl) (envEq (put_ne rfl b68) (dNd rfl ⟨_, rfl⟩) (envEq (put_ne rfl b69) (dPtr (l := p2) (o := 0) rfl) (envEq (put_ne rfl b70) (dNd rfl ⟨_, rfl, hw⟩) (envEq (put_ne rfl b71) (dPtr (l := p6) (o := 0) rfl) (envEq put_same (dNd rfl sS79.one) envNil))))))))
        refine all1 (by kernel_rfl) ?_
        intro vs ls H91 E91 st hE
        have r92 : H91.get p6 = some (.row [.flt .f32 (some 0), .nilslice] true) := row_whole st.inn 2 (l := p6) (b := 0) rfl (by kernel_rfl)
        have r93 : H91.get p22 = some (.row [.flt .f32 x, S79] true) := row_whole st.inn 3 (l := p22) (b := 0) rfl (by kernel_rfl)
        obtain ⟨w94, hw94⟩ : ∃ z, z = (IntKind.wrap .i64 ((i36 : Int) + 1)) := ⟨_, rfl⟩
        have b95 : E91 7 = .int .i64 w94 := by rw [hw94]; exact env_of st.inn hE 7 (by kernel_rfl)
        have b96 : E91 2 = .ptr p2 0 := env_of st.inn hE 2 (by kernel_rfl)
        have b97 : E91 1 = .flt .f32 wt := env_of st.inn hE 1 (by kernel_rfl)
        have b98 : E91 6 = .ptr p22 0 := env_of st.inn hE 6 (by kernel_rfl)
        have b99 : E91 4 = .ptr p6 0 := env_of st.inn hE 4 (by kernel_rfl)
        have g101 : Grew H H91 := grew_own g86 st.inn.kept ⟨op6, ⟨op22, trivial⟩⟩
        have r102 := kept_at st.inn.kept r87 ⟨by first | assumption | exact Apart.symm (by assumption), ⟨by first | assumption | exact Apart.symm (by assumption), trivial⟩⟩
        have r103 := kept_at st.inn.kept r89 ⟨by first | assumption | exact Apart.symm (by assumption), ⟨by first | assumption | exact Apart.symm (by assumption), trivial⟩⟩
        have s104 := sS79.keep st.inn.kept ⟨by assumption, ⟨by assumption, trivial⟩⟩
        clear st hE vs ls
        have hz9 : z36 - 1 < z36 := by omega
        have hy9 : z36 - 1 + (i36 + 1) = ms.length := by omega
        have hi9 : E91 7 = .int .i64 ((i36 + 1 : Nat) : Int) := by rw [b95, hw94, wrap64 (by omega)]
        have hs9 : keepTo (lightB wt) ms (i36 + 1) = ((keepTo (lightB wt) ms i36) ++ [[.int .i32 v52_0, .int .i32 v52_1, .int .i32 v52_2, .flt .f32 v52_3, .flt .f32 v52_4, .flt .f32 v52_5, .flt .f32 v52_6, .int .i64 v52_7, .int .i64 v52_8]]) := by
          rw [keepTo_succ hlt52, hm52, if_neg (by simp [lastLt, lightB, f57])]
        exact res_norm (by kernel_rfl) ⟨z36 - 1, hz9, i36 + 1, S79, hy9, b96, b97, b98, b99, hi9, g101, r102, r93, r92, (by rw [hs9]; exact s104), fr85, (by assumption), (by assumption), (by assumption)⟩
      ·
        intro vs ls H105 E105 st hE
        have f106 : (ford .f32 v52_6 wt == some .lt) = true := bfact st.inn 0 (by kernel_rfl)
        obtain ⟨w107, hw107⟩ : ∃ z, z = (IntKind.wrap .i64 ((i36 : Int) + 1)) := ⟨_, rfl⟩
        have b108 : E105 7 = .int .i64 w107 := by rw [hw107]; exact env_of st.inn hE 7 (by kernel_rfl)
        have b109 : E105 2 = .ptr p2 0 := env_of st.inn hE 2 (by kernel_rfl)
        have b110 : E105 1 = .flt .f32 wt := env_of st.inn hE 1 (by kernel_rfl)
        have b111 : E105 6 = .ptr p22 0 := env_of st.inn hE 6 (by kernel_rfl)
        have b112 : E105 4 = .ptr p6 0 := env_of st.inn hE 4 (by kernel_rfl)
        have g113 : Grew H37 H105 := (st.kept.grew (Nat.le_of_ble_eq_true (by kernel_rfl)))
        have g114 : Grew H H105 := Grew.trans g47 g113
        have r115 := g113.at r48
        have r116 := g113.at r49
        have r118 := g113.at r50
        have s119 := s51.grew g113
        clear st hE vs ls
        have hz9 : z36 - 1 < z36 := by omega
        have hy9 : z36 - 1 + (i36 + 1) = ms.length := by omega
        have hi9 : E105 7 = .int .i64 ((i36 + 1 : Nat) : Int) := by rw [b108, hw107, wrap64 (by omega)]
        have hs9 : keepTo (lightB wt) ms (i36 + 1) = (keepTo (lightB wt) ms i36) := by
          rw [keepTo_succ hlt52, hm52, if_pos (by simp [lastLt, lightB, f106]), List.append_nil]
        exact res_norm (by kernel_rfl) ⟨z36 - 1, hz9, i36 + 1, acc36_0, hy9, b109, b110, b111, b112, hi9, g114, r115, r116, r118, (by rw [hs9]; exact s119), f36_0, (by assumption), (by assumption), (by assumption)⟩
    ·
      intro vs ls H120 E120 st hE
      have f121 : ¬ ((i36 : Int) < (ms.length : Int)) := of_decide_eq_false (bfact (x := decide ((i36 : Int) < (ms.length : Int))) st.inn 0 (by kernel_rfl))
      have b122 : E120 7 = .int .i64 (i36 : Int) := env_of st.inn hE 7 (by kernel_rfl)
      have b123 : E120 2 = .ptr p2 0 := env_of st.inn hE 2 (by kernel_rfl)
      have b124 : E120 19 = .ptr p2 1 := env_of st.inn hE 19 (by kernel_rfl)
      have b125 : E120 20 = S := env_of st.inn hE 20 (by kernel_rfl)
      have b126 : E120 18 = .int .i64 (i36 : Int) := env_of st.inn hE 18 (by kernel_rfl)
      have b127 : E120 21 = .int .i64 (ms.length : Int) := env_of st.inn hE 21 (by kernel_rfl)
      obtain ⟨w128, hw128⟩ : ∃ z, z = (decide ((i36 : Int) < (ms.length : Int))) := ⟨_, rfl⟩
      have b129 : E120 22 = .bool w128 := by rw [hw128]; exact env_of st.inn hE 22 (by kernel_rfl)
      have b130 : E120 1 = .flt .f32 wt := env_of st.inn hE 1 (by kernel_rfl)
      have b131 : E120 6 = .ptr p22 0 := env_of st.inn hE 6 (by kernel_rfl)
      have b132 : E120 4 = .ptr p6 0 := env_of st.inn hE 4 (by kernel_rfl)
      have g133 : Grew Hi36 H120 := (st.kept.grew (Nat.le_of_ble_eq_true (by kernel_rfl)))
      have g134 : Grew H H120 := Grew.trans gt36 g133
      have r135 := g133.at r36_0
      have r136 := g133.at r36_1
      have r137 := g133.at r36_2
      have s138 := s36_0.grew g133
      clear st hE vs ls
      refine res_exit (id := 0) (by kernel_rfl) ?_
      refine run_mn (φ := φ0) (pm := pmR 2 [] 0) 20 (nk := [(.atom 0, .flt .f32), (.atom 1, .one), (.atom 2, .flt .f32), (.atom 3, .bool), (.atom 4, .int .i64), (.atom 5, .one), (.atom 6, .int .i64), (.atom 7, .bool)]) (fs := []) (xs := [.flt .f32 x, S, .flt .f32 wt, .bool (okMap x ms), .int .i64 (i36 : Int), acc36_0, .int .i64 (ms.length : Int), .bool w128]) (ws := [⟨p2, 0, [.nd 0 (.flt .f32), .nd 1 .one], false⟩, ⟨p22, 0, [.nd 0 (.flt .f32), .nd 5 .one], false⟩, ⟨p6, 0, [.lit (.flt .f32 (some 0)), .lit .nilslice], true⟩]) (env := [(7, .nd 4 (.int .i64)), (2, .ptr 0 0), (19, .ptr 0 1), (20, .nd 1 .one), (18, .nd 4 (.int .i64)), (21, .nd 6 (.int .i64)), (22, .nd 7 .bool), (1, .nd 2 (.flt .f32)), (6, .ptr 1 0), (4, .ptr 2 0)]) ?_ ?_ tb_ok ap_ok ?_
      · refine midN_in ?_ .nil _ ?_ ?_ ?_
        · exact (.cons rfl ⟨_, rfl, hx⟩ (.cons rfl (slOne hS) (.cons rfl ⟨_, rfl, hw⟩ (.cons rfl ⟨_, rfl⟩ (.cons rfl ⟨_, rfl⟩ (.cons rfl s36_0.one (.cons rfl ⟨_, rfl⟩ (.cons rfl ⟨_, rfl⟩ .nil))))))))
        · exact (.cons (win_row r135 (dlCons (dNd rfl ⟨_, rfl, hx⟩) (dlCons (dNd rfl (slOne hS)) dlNil))) (.cons (win_row r136 (dlCons (dNd rfl ⟨_, rfl, hx⟩) (dlCons (dNd rfl s36_0.one) dlNil))) (.cons (win_own r137 (dlCons (dLit (by decide +kernel)) (dlCons (dLit rfl) dlNil))) .nil)))
        · exact ⟨(fun v hv h => (by simp at hv; rcases hv with rfl | rfl <;> first | (simp at h; done) | exact Apart.ne (by assumption) | exact (Apart.ne (by assumption)).symm)), ⟨(fun v hv h => (by simp at hv; rcases hv with rfl <;> first | (simp at h; done) | exact Apart.ne (by assumption) | exact (Apart.ne (by assumption)).symm)), ⟨(fun v hv => (by cases hv)), trivial⟩⟩⟩
        · exact .nil
      · exact (envEq b122 (dNd rfl ⟨_, rfl⟩) (envEq b123 (dPtr (l := p2) (o := 0) rfl) (envEq b124 (dPtr (l := p2) (o := 0) rfl) (envEq b125 (dNd rfl (slOne hS)) (envEq b126 (dNd rfl ⟨_, rfl⟩) (envEq b127 (dNd rfl ⟨_, rfl⟩) (envEq b129 (dNd rfl ⟨_, rfl⟩) (envEq b130 (dNd rfl ⟨_, rfl, hw⟩) (envEq b131 (dPtr (l := p22) (o := 0) rfl) (envEq b132 (dPtr (l := p6) (o := 0) rfl) envNil))))))))))
      refine all1 (by kernel_rfl) ?_
      intro vs ls H139 E139 st hE
      have hfin : ms.filter (fun m => !lightB wt m) = keepTo (lightB wt) ms i36 := by rw [show i36 = ms.length by omega, keepTo_full]
      have gz : Grew H H139 := (grew_own g134 (st.inn.kept) ⟨op6, trivial⟩)
      have hc : lighterV x ms wt = (x, ms.filter (fun m => !lightB wt m), 0) := by
        unfold lighterV
        rw [f21]; first | rfl | (rw [f20]; rfl)
      exact res_ex (by kernel_rfl) (end_same st.inn hE (.inr rfl) (a := .tuple [.agg [.flt .f32 x, acc36_0], .int .i64 0]) (by kernel_rfl) gz.next (by rw [hc]; exact ⟨gz, _, rfl, (by rw [show ms.filter (fun m => !lightB wt m) = (keepTo (lightB wt) ms i36) from hfin]; exact ((s138.keep st.inn.kept ⟨by assumption, trivial⟩)).toW), f36_0⟩))
end Go.Proofs.Ytgjhjemmddojfaa
