/- MarkIn: the specification's walk and the law's. -/
import Derived.Test.YtgjhjemmddojfaaMarkIn
import Derived.Test.YtgjhjemmddojfaaLawValidMap
import Derived.Test.YtgjhjemmddojfaaSxC
set_option linter.unusedVariables false
set_option linter.unusedSimpArgs false
namespace Go.Proofs.Ytgjhjemmddojfaa
open Go.Ab
set_option maxRecDepth 100000
attribute [local irreducible] Res
set_option maxHeartbeats 1000000
theorem k_spec_MarkIn (H : AHeap) (x : Option Nat) (hx : fOk .f32 x) (ms : List (List AV)) (hr : Recs KM ms) (S : AV) (hS : SlL H 9 ms S) (a b c : Int) (hmax : ms.length < 2 ^ 40) : APure Try.prog 36 [.agg [.flt .f32 x, S], .agg (plc a b c)] H (markIn x ms a b c) := by
  refine res_start h_spec_MarkIn (by simp) ?_
  refine run_mn (φ := φ0) (pm := pmR 0 [] 0) 20 (nk := [(.atom 0, .flt .f32), (.atom 1, .one), (.atom 2, .int .i32), (.atom 3, .int .i32), (.atom 4, .int .i32)]) (fs := []) (xs := [.flt .f32 x, S, .int .i32 a, .int .i32 b, .int .i32 c]) (ws := []) (env := [(0, .agg [.nd 0 (.flt .f32), .nd 1 .one]), (1, .agg [.nd 2 (.int .i32), .nd 3 (.int .i32), .nd 4 (.int .i32)])]) ?_ ?_ tb_ok ap_ok ?_
  · refine midN_in ?_ .nil _ ?_ ?_ ?_
    · exact (.cons rfl ⟨_, rfl, hx⟩ (.cons rfl (slOne hS) (.cons rfl ⟨_, rfl⟩ (.cons rfl ⟨_, rfl⟩ (.cons rfl ⟨_, rfl⟩ .nil)))))
    · exact .nil
    · exact sepOk_ro rfl
    · exact .nil
  · exact (envEq rfl (dAgg (dlCons (dNd rfl ⟨_, rfl, hx⟩) (dlCons (dNd rfl (slOne hS)) dlNil))) (envEq rfl (dAgg (dlCons (dNd rfl ⟨_, rfl⟩) (dlCons (dNd rfl ⟨_, rfl⟩) (dlCons (dNd rfl ⟨_, rfl⟩) dlNil)))) envNil))
  refine all1 (by kernel_rfl) ?_
  intro vs ls H1 E1 st hE
  obtain ⟨p2, e3, r4, n5⟩ := ptr_of st.inn hE 2 0 (by kernel_rfl) (ds := [.flt .f32 x, S]) (by kernel_rfl)
  have op2 : H.next ≤ p2 := Nat.le_trans (Nat.le_refl _) (n5 (Nat.le_of_ble_eq_true rfl))
  obtain ⟨p6, e7, r8, n9⟩ := ptr_of st.inn hE 4 2 (by kernel_rfl) (ds := [.int .i32 0, .int .i32 0, .int .i32 0, .flt .f32 (some 0), .flt .f32 (some 0), .flt .f32 (some 0), .flt .f32 (some 0), .int .i64 0, .int .i64 0]) (by kernel_rfl)
  have op6 : H.next ≤ p6 := Nat.le_trans (Nat.le_refl _) (n9 (Nat.le_of_ble_eq_true rfl))
  obtain ⟨p10, e11, r12, n13⟩ := ptr_of st.inn hE 3 1 (by kernel_rfl) (ds := [.int .i32 a, .int .i32 b, .int .i32 c]) (by kernel_rfl)
  have op10 : H.next ≤ p10 := Nat.le_trans (Nat.le_refl _) (n13 (Nat.le_of_ble_eq_true rfl))
  have ne14 : Apart p2 p6 := ⟨ptr_ne st.inn hE 2 0 4 2 (by kernel_rfl) (by kernel_rfl) (cs := [.nd 0 (.flt .f32), .nd 1 .one]) (by kernel_rfl) (by decide) e3 e7⟩
  have ne15 : Apart p2 p10 := ⟨ptr_ne st.inn hE 2 0 3 1 (by kernel_rfl) (by kernel_rfl) (cs := [.nd 0 (.flt .f32), .nd 1 .one]) (by kernel_rfl) (by decide) e3 e11⟩
  have ne16 : Apart p6 p10 := ⟨ptr_ne st.inn hE 4 2 3 1 (by kernel_rfl) (by kernel_rfl) (cs := [.lit (.int .i32 0), .lit (.int .i32 0), .lit (.int .i32 0), .lit (.flt .f32 (some 0)), .lit (.flt .f32 (some 0)), .lit (.flt .f32 (some 0)), .lit (.flt .f32 (some 0)), .lit (.int .i64 0), .lit (.int .i64 0)]) (by kernel_rfl) (by decide) e7 e11⟩
  have g17 : Grew H H1 := (st.kept.grew (Nat.le_of_ble_eq_true (by kernel_rfl)))
  have g18 : Grew H H1 := Grew.trans (Grew.refl _) g17
  clear st hE vs ls
  refine res_call (d := (some 8)) (f := 72) (args := [.tmp 2]) (by kernel_rfl) (R := fun z H' => z = .bool (okMap x ms) ∧ H' = H1) ?_ ?_
  · show ACalls _ _ [E1 2] _ _
    rw [e3]
    exact k_l05Ok H1 p2 x hx S true ms hr r4 (hS.grew g18) hmax
  rintro z H1 ⟨rfl, rfl⟩
  refine run_mn (φ := φ0) (pm := pmR 2 [(.call 73 [.nd 1 .one, .agg [.nd 2 (.int .i32), .nd 3 (.int .i32), .nd 4 (.int .i32)]], .tup [.nd 6 (.int .i64), .nd 7 .bool])] 0) 20 (nk := [(.atom 0, .flt .f32), (.atom 1, .one), (.atom 2, .int .i32), (.atom 3, .int .i32), (.atom 4, .int .i32), (.atom 5, .bool), (.atom 6, .int .i64), (.atom 7, .bool)]) (fs := []) (xs := [.flt .f32 x, S, .int .i32 a, .int .i32 b, .int .i32 c, .bool (okMap x ms), .int .i64 (lin ms a b c : Int), .bool (fnd ms a b c)]) (ws := [⟨p2, 0, [.nd 0 (.flt .f32), .nd 1 .one], false⟩, ⟨p10, 0, [.nd 2 (.int .i32), .nd 3 (.int .i32), .nd 4 (.int .i32)], false⟩, ⟨p6, 0, [.lit (.int .i32 0), .lit (.int .i32 0), .lit (.int .i32 0), .lit (.flt .f32 (some 0)), .lit (.flt .f32 (some 0)), .lit (.flt .f32 (some 0)), .lit (.flt .f32 (some 0)), .lit (.int .i64 0), .lit (.int .i64 0)], true⟩]) (env := [(2, .ptr 0 0), (4, .ptr 2 0), (3, .ptr 1 0), (8, .nd 5 .bool)]) ?_ ?_ tb_ok ap_ok ?_
  · refine midN_in ?_ .nil _ ?_ ?_ ?_
    · exact (.cons rfl ⟨_, rfl, hx⟩ (.cons rfl (slOne hS) (.cons rfl ⟨_, rfl⟩ (.cons rfl ⟨_, rfl⟩ (.cons rfl ⟨_, rfl⟩ (.cons rfl ⟨_, rfl⟩ (.cons rfl ⟨_, rfl⟩ (.cons rfl ⟨_, rfl⟩ .nil))))))))
    · exact (.cons (win_row r4 (dlCons (dNd rfl ⟨_, rfl, hx⟩) (dlCons (dNd rfl (slOne hS)) dlNil))) (.cons (win_row r12 (dlCons (dNd rfl ⟨_, rfl⟩) (dlCons (dNd rfl ⟨_, rfl⟩) (dlCons (dNd rfl ⟨_, rfl⟩) dlNil)))) (.cons (win_own r8 (dlCons (dLit rfl) (dlCons (dLit rfl) (dlCons (dLit rfl) (dlCons (dLit (by decide +kernel)) (dlCons (dLit (by decide +kernel)) (dlCons (dLit (by decide +kernel)) (dlCons (dLit (by decide +kernel)) (dlCons (dLit rfl) (dlCons (dLit rfl) dlNil)))))))))) .nil)))
    · exact ⟨(fun v hv h => (by simp at hv; rcases hv with rfl | rfl <;> first | (simp at h; done) | exact Apart.ne (by assumption) | exact (Apart.ne (by assumption)).symm)), ⟨(fun v hv h => (by simp at hv; rcases hv with rfl <;> first | (simp at h; done) | exact Apart.ne (by assumption) | exact (Apart.ne (by assumption)).symm)), ⟨(fun v hv => (by cases hv)), trivial⟩⟩⟩
    · exact (.cons (rule_call (args := [S, .agg [.int .i32 a, .int .i32 b, .int .i32 c]]) (dlCons (dNd rfl (slOne hS)) (dlCons (dAgg (dlCons (dNd rfl ⟨_, rfl⟩) (dlCons (dNd rfl ⟨_, rfl⟩) (dlCons (dNd rfl ⟨_, rfl⟩) dlNil)))) dlNil)) (dTup' (dlCons (dNd rfl ⟨_, rfl⟩) (dlCons (dNd rfl ⟨_, rfl⟩) dlNil))) (fun H9 hk => k_l05Find H9 ms hr S (hS.grew (grew_own g18 hk ⟨op6, trivial⟩)) a b c hmax)) .nil)
  · exact (envEq (put_ne rfl e3) (dPtr (l := p2) (o := 0) rfl) (envEq (put_ne rfl e7) (dPtr (l := p6) (o := 0) rfl) (envEq (put_ne rfl e11) (dPtr (l := p10) (o := 0) rfl) (envEq put_same (dNd rfl ⟨_, rfl⟩) envNil))))
  refine all3 (by kernel_rfl) ?_ ?_ ?_
  ·
    intro vs ls H19 E19 st hE
    have f20 : (okMap x ms) = false := bfact st.inn 0 (by kernel_rfl)
    refine res_ex (by kernel_rfl) (end_flat st.inn hE (.inr rfl) (a := .tuple [.agg [.int .i32 0, .int .i32 0, .int .i32 0, .flt .f32 (some 0), .flt .f32 (some 0), .flt .f32 (some 0), .flt .f32 (some 0), .int .i64 0, .int .i64 0], .int .i64 1]) (by kernel_rfl) (grew_own g18 (st.inn.kept) ⟨op6, trivial⟩) rfl ⟨?_, rfl⟩)
    rw [markIn, if_pos f20]; rfl
  ·
    intro vs ls H21 E21 st hE
    have f22 : (fnd ms a b c) = false := bfact st.inn 0 (by kernel_rfl)
    have f23 : (okMap x ms) = true := bfact st.inn 1 (by kernel_rfl)
    refine res_ex (by kernel_rfl) (end_flat st.inn hE (.inr rfl) (a := .tuple [.agg [.int .i32 0, .int .i32 0, .int .i32 0, .flt .f32 (some 0), .flt .f32 (some 0), .flt .f32 (some 0), .flt .f32 (some 0), .int .i64 0, .int .i64 0], .int .i64 6]) (by kernel_rfl) (grew_own g18 (st.inn.kept) ⟨op6, trivial⟩) rfl ⟨?_, rfl⟩)
    rw [markIn, f23, f22]; rfl
  ·
    intro vs ls H24 E24 st hE
    have f25 : (fnd ms a b c) = true := bfact st.inn 0 (by kernel_rfl)
    have f26 : (okMap x ms) = true := bfact st.inn 1 (by kernel_rfl)
    have b27 : E24 22 = S := env_of st.inn hE 22 (by kernel_rfl)
    have b28 : E24 23 = .int .i64 (lin ms a b c : Int) := env_of st.inn hE 23 (by kernel_rfl)
    have b29 : E24 4 = .ptr p6 0 := env_of st.inn hE 4 (by kernel_rfl)
    have g30 : Grew H1 H24 := (st.kept.grew (Nat.le_of_ble_eq_true (by kernel_rfl)))
    have g31 : Grew H H24 := Grew.trans g18 g30
    have r32 := g30.at r4
    have r33 := g30.at r12
    have r34 := g30.at r8
    clear st hE vs ls
    have hlt : lin ms a b c < ms.length := by
      have h := f25
      simp only [fnd, Bool.and_eq_true, decide_eq_true_eq] at h
      exact h.1
    obtain ⟨lS, cap, rest, wr, eS, gS0⟩ := hS.isSl hlt
    have gS := g31.at gS0
    obtain ⟨v0, v1, v2, v3, v4, v5, v6, v7, v8, hm', o3, o4, o5, o6⟩ := partsMark (hr.get hlt)
    have hel : ms.getD (lin ms a b c) [] = [.int .i32 v0, .int .i32 v1, .int .i32 v2, .flt .f32 v3, .flt .f32 v4, .flt .f32 v5, .flt .f32 v6, .int .i64 v7, .int .i64 v8] := by rw [← hm']; simp [List.getD_eq_getElem?_getD, hlt]
    have ne35 : Apart p6 lS := ⟨Nat.ne_of_gt (Nat.lt_of_lt_of_le (H.lt_of_get gS0) op6)⟩
    refine run_mn (φ := φ0) (pm := pmR 1 [(.ia 9 (.nd 1 .one) (.nd 6 (.int .i64)), .ptr 0 0)] 0) 20 (nk := [(.atom 0, .flt .f32), (.atom 1, .one), (.atom 2, .int .i32), (.atom 3, .int .i32), (.atom 4, .int .i32), (.atom 5, .bool), (.atom 6, .int .i64), (.atom 7, .bool), (.atom 8, .int .i32), (.atom 9, .int .i32), (.atom 10, .int .i32), (.atom 11, .flt .f32), (.atom 12, .flt .f32), (.atom 13, .flt .f32), (.atom 14, .flt .f32), (.atom 15, .int .i64), (.atom 16, .int .i64)]) (fs := []) (xs := [.flt .f32 x, S, .int .i32 a, .int .i32 b, .int .i32 c, .bool (okMap x ms), .int .i64 (lin ms a b c : Int), .bool (fnd ms a b c), .int .i32 v0, .int .i32 v1, .int .i32 v2, .flt .f32 v3, .flt .f32 v4, .flt .f32 v5, .flt .f32 v6, .int .i64 v7, .int .i64 v8]) (ws := [⟨lS, (lin ms a b c * 9), [.nd 8 (.int .i32), .nd 9 (.int .i32), .nd 10 (.int .i32), .nd 11 (.flt .f32), .nd 12 (.flt .f32), .nd 13 (.flt .f32), .nd 14 (.flt .f32), .nd 15 (.int .i64), .nd 16 (.int .i64)], false⟩, ⟨p6, 0, [.lit (.int .i32 0), .lit (.int .i32 0), .lit (.int .i32 0), .lit (.flt .f32 (some 0)), .lit (.flt .f32 (some 0)), .lit (.flt .f32 (some 0)), .lit (.flt .f32 (some 0)), .lit (.int .i64 0), .lit (.int .i64 0)], true⟩]) (env := [(22, .nd 1 .one), (23, .nd 6 (.int .i64)), (4, .ptr 1 0)]) ?_ ?_ tb_ok ap_ok ?_
    · refine midN_in ?_ .nil _ ?_ ?_ ?_
      · exact (.cons rfl ⟨_, rfl, hx⟩ (.cons rfl (slOne hS) (.cons rfl ⟨_, rfl⟩ (.cons rfl ⟨_, rfl⟩ (.cons rfl ⟨_, rfl⟩ (.cons rfl ⟨_, rfl⟩ (.cons rfl ⟨_, rfl⟩ (.cons rfl ⟨_, rfl⟩ (.cons rfl ⟨_, rfl⟩ (.cons rfl ⟨_, rfl⟩ (.cons rfl ⟨_, rfl⟩ (.cons rfl ⟨_, rfl, o3⟩ (.cons rfl ⟨_, rfl, o4⟩ (.cons rfl ⟨_, rfl, o5⟩ (.cons rfl ⟨_, rfl, o6⟩ (.cons rfl ⟨_, rfl⟩ (.cons rfl ⟨_, rfl⟩ .nil)))))))))))))))))
      · exact (.cons (win_elem hr gS hlt rfl (by rw [hm']; exact (dlCons (dNd rfl ⟨_, rfl⟩) (dlCons (dNd rfl ⟨_, rfl⟩) (dlCons (dNd rfl ⟨_, rfl⟩) (dlCons (dNd rfl ⟨_, rfl, o3⟩) (dlCons (dNd rfl ⟨_, rfl, o4⟩) (dlCons (dNd rfl ⟨_, rfl, o5⟩) (dlCons (dNd rfl ⟨_, rfl, o6⟩) (dlCons (dNd rfl ⟨_, rfl⟩) (dlCons (dNd rfl ⟨_, rfl⟩) dlNil))))))))))) (.cons (win_own r34 (dlCons (dLit rfl) (dlCons (dLit rfl) (dlCons (dLit rfl) (dlCons (dLit (by decide +kernel)) (dlCons (dLit (by decide +kernel)) (dlCons (dLit (by decide +kernel)) (dlCons (dLit (by decide +kernel)) (dlCons (dLit rfl) (dlCons (dLit rfl) dlNil)))))))))) .nil))
      · exact ⟨(fun v hv h => (by simp at hv; rcases hv with rfl <;> first | (simp at h; done) | exact Apart.ne (by assumption) | exact (Apart.ne (by assumption)).symm)), ⟨(fun v hv => (by cases hv)), trivial⟩⟩
      · exact (.cons (rule_iaS (k := lin ms a b c) (dNd rfl (slOne hS)) eS (dNd rfl ⟨_, rfl⟩) hlt rfl) .nil)
    · exact (envEq b27 (dNd rfl (slOne hS)) (envEq b28 (dNd rfl ⟨_, rfl⟩) (envEq b29 (dPtr (l := p6) (o := 0) rfl) envNil)))
    refine all1 (by kernel_rfl) ?_
    intro vs ls H36 E36 st hE
    refine res_ex (by kernel_rfl) (end_flat st.inn hE (.inr rfl) (a := .tuple [.agg [.int .i32 v0, .int .i32 v1, .int .i32 v2, .flt .f32 v3, .flt .f32 v4, .flt .f32 v5, .flt .f32 v6, .int .i64 v7, .int .i64 v8], .int .i64 0]) (by kernel_rfl) (grew_own g31 (st.inn.kept) ⟨op6, trivial⟩) rfl ⟨?_, rfl⟩)
    rw [markIn, f26, f25, hel]; rfl
end Go.Proofs.Ytgjhjemmddojfaa
