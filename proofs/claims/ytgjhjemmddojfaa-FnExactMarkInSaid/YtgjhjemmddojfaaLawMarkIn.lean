/- The law of MarkIn, walked. -/
import Derived.Test.YtgjhjemmddojfaaMarkInS
set_option linter.unusedVariables false
set_option linter.unusedSimpArgs false
namespace Go.Proofs.Ytgjhjemmddojfaa
open Go.Ab
set_option maxRecDepth 100000
attribute [local irreducible] Res
theorem f0 : fOk .f32 (some 0) := fun b e => by cases e; exact ⟨by decide +kernel, by decide +kernel⟩
set_option maxHeartbeats 2000000
theorem markIn_parts (x : Option Nat) (ms : List (List AV)) (hr : Recs KM ms) (a b c : Int) : ∃ (v0 v1 v2 : Int) (v3 v4 v5 v6 : Option Nat) (v7 v8 code : Int), markIn x ms a b c = .tuple [.agg [.int .i32 v0, .int .i32 v1, .int .i32 v2, .flt .f32 v3, .flt .f32 v4, .flt .f32 v5, .flt .f32 v6, .int .i64 v7, .int .i64 v8], .int .i64 code] ∧ fOk .f32 v3 ∧ fOk .f32 v4 ∧ fOk .f32 v5 ∧ fOk .f32 v6 := by
  unfold markIn
  split
  · exact ⟨0, 0, 0, some 0, some 0, some 0, some 0, 0, 0, 1, rfl, f0, f0, f0, f0⟩
  · split
    · exact ⟨0, 0, 0, some 0, some 0, some 0, some 0, 0, 0, 6, rfl, f0, f0, f0, f0⟩
    · rename_i h
      have hlt : lin ms a b c < ms.length := by
        have h : fnd ms a b c = true := by simpa using h
        simp only [fnd, Bool.and_eq_true, decide_eq_true_eq] at h
        exact h.1
      obtain ⟨v0, v1, v2, v3, v4, v5, v6, v7, v8, hm', o3, o4, o5, o6⟩ := partsMark (hr.get hlt)
      exact ⟨v0, v1, v2, v3, v4, v5, v6, v7, v8, 0, by rw [show ms.getD (lin ms a b c) [] = ms[lin ms a b c] by simp [List.getD_eq_getElem?_getD, hlt], hm'], o3, o4, o5, o6⟩
theorem placeArg {H : AHeap} {a : AV} (h : FitArg H (true, [.int .i32, .int .i32, .int .i32]) a) : ∃ (a0 a1 a2 : Int), a = .agg [.int .i32 a0, .int .i32 a1, .int .i32 a2] := by
  obtain ⟨cs, rfl, hl, hc⟩ := h
  match cs, hl with
  | [c0, c1, c2], _ =>
    have h0 := hc 0 _ _ rfl rfl
    have h1 := hc 1 _ _ rfl rfl
    have h2 := hc 2 _ _ rfl rfl
    cases h0; cases h1; cases h2
    exact ⟨_, _, _, rfl⟩
theorem lawExactMarkIn (H : AHeap) (vs : List AV) (h : FitArgs H [(true, [.flt .f32, .sl [.int .i32, .int .i32, .int .i32, .flt .f32, .flt .f32, .flt .f32, .flt .f32, .int .i64, .int .i64]]), (true, [.int .i32, .int .i32, .int .i32])] vs) : ACalls Try.prog 9 vs H fun r _ => r = .bool true := by
  match vs, h with
  | [a, b], h =>
  obtain ⟨x, ms, S, rfl, hx, hr, hS, hmx⟩ := mapArg h.1
  obtain ⟨a, b, c, rfl⟩ := placeArg h.2.1
  clear h
  obtain ⟨v0, v1, v2, v3, v4, v5, v6, v7, v8, code, hmk, o3, o4, o5, o6⟩ := markIn_parts x ms hr a b c
  refine res_start h_laws_FnExactMarkIn (by simp) ?_
  obtain ⟨q1, kq1, hq1⟩ : ∃ r : Int, (∀ H9, Grew H H9 → APure Try.prog 30 [.agg [.flt .f32 x, S], .int .i64 1048576] H9 (.int .i64 r)) ∧ (r < 0 ∨ r = 1048576 - ms.length) := ⟨_, fun H9 hk => k_szLandMap H9 x hx ms S (hS.grew (Grew.trans (Grew.refl _) hk)) 1048576 (by omega) (by omega) hmx, by split <;> omega⟩
  refine run_mn (φ := φ0) (pm := pmR 0 [(.call 30 [.agg [.nd 0 (.flt .f32), .nd 1 .one], .lit (.int .i64 1048576)], .nd 15 (.int .i64))] 0) 20 (nk := [(.atom 0, .flt .f32), (.atom 1, .one), (.atom 2, .int .i32), (.atom 3, .int .i32), (.atom 4, .int .i32), (.atom 5, .int .i32), (.atom 6, .int .i32), (.atom 7, .int .i32), (.atom 8, .flt .f32), (.atom 9, .flt .f32), (.atom 10, .flt .f32), (.atom 11, .flt .f32), (.atom 12, .int .i64), (.atom 13, .int .i64), (.atom 14, .int .i64), (.atom 15, .int .i64)]) (fs := []) (xs := [.flt .f32 x, S, .int .i32 a, .int .i32 b, .int .i32 c, .int .i32 v0, .int .i32 v1, .int .i32 v2, .flt .f32 v3, .flt .f32 v4, .flt .f32 v5, .flt .f32 v6, .int .i64 v7, .int .i64 v8, .int .i64 code, .int .i64 q1]) (ws := []) (env := [(0, .agg [.nd 0 (.flt .f32), .nd 1 .one]), (1, .agg [.nd 2 (.int .i32), .nd 3 (.int .i32), .nd 4 (.int .i32)])]) ?_ ?_ tb_ok ap_ok ?_
  · refine midN_in ?_ .nil _ ?_ ?_ ?_
    · exact (.cons rfl ⟨_, rfl, hx⟩ (.cons rfl (slOne hS) (.cons rfl ⟨_, rfl⟩ (.cons rfl ⟨_, rfl⟩ (.cons rfl ⟨_, rfl⟩ (.cons rfl ⟨_, rfl⟩ (.cons rfl ⟨_, rfl⟩ (.cons rfl ⟨_, rfl⟩ (.cons rfl ⟨_, rfl, o3⟩ (.cons rfl ⟨_, rfl, o4⟩ (.cons rfl ⟨_, rfl, o5⟩ (.cons rfl ⟨_, rfl, o6⟩ (.cons rfl ⟨_, rfl⟩ (.cons rfl ⟨_, rfl⟩ (.cons rfl ⟨_, rfl⟩ (.cons rfl ⟨_, rfl⟩ .nil))))))))))))))))
    · exact .nil
    · exact sepOk_ro rfl
    · exact (.cons (rule_call (args := [.agg [.flt .f32 x, S], .int .i64 1048576]) (dlCons (dAgg (dlCons (dNd rfl ⟨_, rfl, hx⟩) (dlCons (dNd rfl (slOne hS)) dlNil))) (dlCons (dLit rfl) dlNil)) (dNd rfl ⟨_, rfl⟩) (fun H9 hk => kq1 H9 (hk.grew (Nat.le_refl _)))) .nil)
  · exact (envEq rfl (dAgg (dlCons (dNd rfl ⟨_, rfl, hx⟩) (dlCons (dNd rfl (slOne hS)) dlNil))) (envEq rfl (dAgg (dlCons (dNd rfl ⟨_, rfl⟩) (dlCons (dNd rfl ⟨_, rfl⟩) (dlCons (dNd rfl ⟨_, rfl⟩) dlNil)))) envNil))
  refine all2 (by kernel_rfl) ?_ ?_
  ·
    intro vs ls H2 E2 st hE
    have f3 : q1 < 0 := of_decide_eq_true (bfact (x := decide (q1 < 0)) st.inn 0 (by kernel_rfl))
    exact res_ex (by kernel_rfl) (end_same st.inn hE (.inr rfl) (a := .bool true) (by kernel_rfl) (Nat.le_trans (Nat.le_refl _) st.kept.1) rfl)
  ·
    intro vs ls H4 E4 st hE
    have f5 : ¬ (q1 < 0) := of_decide_eq_false (bfact (x := decide (q1 < 0)) st.inn 0 (by kernel_rfl))
    have mxms : ms.length ≤ 1048576 := by omega
    obtain ⟨p6, e7, r8, n9⟩ := ptr_of st.inn hE 6 2 (by kernel_rfl) (ds := [.int .i32 0, .int .i32 0, .int .i32 0, .flt .f32 (some 0), .flt .f32 (some 0), .flt .f32 (some 0), .flt .f32 (some 0), .int .i64 0, .int .i64 0]) (by kernel_rfl)
    have op6 : H.next ≤ p6 := Nat.le_trans (Nat.le_refl _) (n9 (Nat.le_of_ble_eq_true rfl))
    obtain ⟨p10, e11, r12, n13⟩ := ptr_of st.inn hE 2 0 (by kernel_rfl) (ds := [.flt .f32 x, S]) (by kernel_rfl)
    have op10 : H.next ≤ p10 := Nat.le_trans (Nat.le_refl _) (n13 (Nat.le_of_ble_eq_true rfl))
    obtain ⟨p14, e15, r16, n17⟩ := ptr_of st.inn hE 3 1 (by kernel_rfl) (ds := [.int .i32 a, .int .i32 b, .int .i32 c]) (by kernel_rfl)
    have op14 : H.next ≤ p14 := Nat.le_trans (Nat.le_refl _) (n17 (Nat.le_of_ble_eq_true rfl))
    have ne18 : Apart p6 p10 := ⟨ptr_ne st.inn hE 6 2 2 0 (by kernel_rfl) (by kernel_rfl) (cs := [.lit (.int .i32 0), .lit (.int .i32 0), .lit (.int .i32 0), .lit (.flt .f32 (some 0)), .lit (.flt .f32 (some 0)), .lit (.flt .f32 (some 0)), .lit (.flt .f32 (some 0)), .lit (.int .i64 0), .lit (.int .i64 0)]) (by kernel_rfl) (by decide) e7 e11⟩
    have ne19 : Apart p6 p14 := ⟨ptr_ne st.inn hE 6 2 3 1 (by kernel_rfl) (by kernel_rfl) (cs := [.lit (.int .i32 0), .lit (.int .i32 0), .lit (.int .i32 0), .lit (.flt .f32 (some 0)), .lit (.flt .f32 (some 0)), .lit (.flt .f32 (some 0)), .lit (.flt .f32 (some 0)), .lit (.int .i64 0), .lit (.int .i64 0)]) (by kernel_rfl) (by decide) e7 e15⟩
    have ne20 : Apart p10 p14 := ⟨ptr_ne st.inn hE 2 0 3 1 (by kernel_rfl) (by kernel_rfl) (cs := [.nd 0 (.flt .f32), .nd 1 .one]) (by kernel_rfl) (by decide) e11 e15⟩
    have b21 : E4 17 = .agg [.flt .f32 x, S] := env_of st.inn hE 17 (by kernel_rfl)
    have b22 : E4 19 = .agg [.int .i32 a, .int .i32 b, .int .i32 c] := env_of st.inn hE 19 (by kernel_rfl)
    have g23 : Grew H H4 := (st.kept.grew (Nat.le_of_ble_eq_true (by kernel_rfl)))
    have g24 : Grew H H4 := Grew.trans (Grew.refl _) g23
    clear st hE vs ls
    refine res_kid (free := false) (d := (some 18)) (f := 32) (args := [.tmp 17]) (by kernel_rfl) (R := fun z H' => Grew H4 H' ∧ ∃ l, H4.next ≤ l ∧ z = .agg [.flt .f32 x, .slice l 0 ms.length ms.length 9] ∧ H'.get l = some (.row ms.flatten true)) ?_ ?_
    · show ACalls _ _ [E4 17] _ _
      rw [b21]
      exact k_toLandMap H4 x hx ms hr S (hS.grew g24) mxms
    rintro z H26 ⟨gl25, l25, hl25, rfl, rowl25⟩
    refine ⟨gl25, ?_⟩
    have ne27 : Apart l25 p6 := ⟨Nat.ne_of_gt (Nat.lt_of_lt_of_le (H4.lt_of_get r8) hl25)⟩
    have ne28 : Apart l25 p10 := ⟨Nat.ne_of_gt (Nat.lt_of_lt_of_le (H4.lt_of_get r12) hl25)⟩
    have ne29 : Apart l25 p14 := ⟨Nat.ne_of_gt (Nat.lt_of_lt_of_le (H4.lt_of_get r16) hl25)⟩
    have g30 : Grew H H26 := Grew.trans g24 gl25
    have r31 := gl25.at r8
    have r32 := gl25.at r12
    have r33 := gl25.at r16
    have sl25 : SlL H26 9 ms (.slice l25 0 ms.length ms.length 9) := .sl (rest := []) (by simpa using rowl25) rfl (Nat.le_refl _)
    refine run_mn (φ := φ0) (pm := pmR 2 [(.call 36 [.agg [.nd 0 (.flt .f32), .nd 16 .one], .agg [.nd 2 (.int .i32), .nd 3 (.int .i32), .nd 4 (.int .i32)]], .tup [.agg [.nd 5 (.int .i32), .nd 6 (.int .i32), .nd 7 (.int .i32), .nd 8 (.flt .f32), .nd 9 (.flt .f32), .nd 10 (.flt .f32), .nd 11 (.flt .f32), .nd 12 (.int .i64), .nd 13 (.int .i64)], .nd 14 (.int .i64)])] 0) 20 (nk := [(.atom 0, .flt .f32), (.atom 1, .one), (.atom 2, .int .i32), (.atom 3, .int .i32), (.atom 4, .int .i32), (.atom 5, .int .i32), (.atom 6, .int .i32), (.atom 7, .int .i32), (.atom 8, .flt .f32), (.atom 9, .flt .f32), (.atom 10, .flt .f32), (.atom 11, .flt .f32), (.atom 12, .int .i64), (.atom 13, .int .i64), (.atom 14, .int .i64), (.atom 15, .int .i64), (.atom 16, .one)]) (fs := []) (xs := [.flt .f32 x, S, .int .i32 a, .int .i32 b, .int .i32 c, .int .i32 v0, .int .i32 v1, .int .i32 v2, .flt .f32 v3, .flt .f32 v4, .flt .f32 v5, .flt .f32 v6, .int .i64 v7, .int .i64 v8, .int .i64 code, .int .i64 q1, .slice l25 0 ms.length ms.length 9]) (ws := [⟨p10, 0, [.nd 0 (.flt .f32), .nd 1 .one], false⟩, ⟨p14, 0, [.nd 2 (.int .i32), .nd 3 (.int .i32), .nd 4 (.int .i32)], false⟩, ⟨p6, 0, [.lit (.int .i32 0), .lit (.int .i32 0), .lit (.int .i32 0), .lit (.flt .f32 (some 0)), .lit (.flt .f32 (some 0)), .lit (.flt .f32 (some 0)), .lit (.flt .f32 (some 0)), .lit (.int .i64 0), .lit (.int .i64 0)], true⟩]) (env := [(17, .agg [.nd 0 (.flt .f32), .nd 1 .one]), (19, .agg [.nd 2 (.int .i32), .nd 3 (.int .i32), .nd 4 (.int .i32)]), (6, .ptr 2 0), (2, .ptr 0 0), (3, .ptr 1 0), (18, .agg [.nd 0 (.flt .f32), .nd 16 .one])]) ?_ ?_ tb_ok ap_ok ?_
    · refine midN_in ?_ .nil _ ?_ ?_ ?_
      · exact (.cons rfl ⟨_, rfl, hx⟩ (.cons rfl (slOne hS) (.cons rfl ⟨_, rfl⟩ (.cons rfl ⟨_, rfl⟩ (.cons rfl ⟨_, rfl⟩ (.cons rfl ⟨_, rfl⟩ (.cons rfl ⟨_, rfl⟩ (.cons rfl ⟨_, rfl⟩ (.cons rfl ⟨_, rfl, o3⟩ (.cons rfl ⟨_, rfl, o4⟩ (.cons rfl ⟨_, rfl, o5⟩ (.cons rfl ⟨_, rfl, o6⟩ (.cons rfl ⟨_, rfl⟩ (.cons rfl ⟨_, rfl⟩ (.cons rfl ⟨_, rfl⟩ (.cons rfl ⟨_, rfl⟩ (.cons rfl rfl .nil)))))))))))))))))
      · exact (.cons (win_row r32 (dlCons (dNd rfl ⟨_, rfl, hx⟩) (dlCons (dNd rfl (slOne hS)) dlNil))) (.cons (win_row r33 (dlCons (dNd rfl ⟨_, rfl⟩) (dlCons (dNd rfl ⟨_, rfl⟩) (dlCons (dNd rfl ⟨_, rfl⟩) dlNil)))) (.cons (win_own r31 (dlCons (dLit rfl) (dlCons (dLit rfl) (dlCons (dLit rfl) (dlCons (dLit (by decide +kernel)) (dlCons (dLit (by decide +kernel)) (dlCons (dLit (by decide +kernel)) (dlCons (dLit (by decide +kernel)) (dlCons (dLit rfl) (dlCons (dLit rfl) dlNil)))))))))) .nil)))
      · exact ⟨(fun v hv h => (by simp at hv; rcases hv with rfl | rfl <;> first | (simp at h; done) | exact Apart.ne (by assumption) | exact (Apart.ne (by assumption)).symm)), ⟨(fun v hv h => (by simp at hv; rcases hv with rfl <;> first | (simp at h; done) | exact Apart.ne (by assumption) | exact (Apart.ne (by assumption)).symm)), ⟨(fun v hv => (by cases hv)), trivial⟩⟩⟩
      · exact (.cons (rule_call (args := [.agg [.flt .f32 x, .slice l25 0 ms.length ms.length 9], .agg [.int .i32 a, .int .i32 b, .int .i32 c]]) (dlCons (dAgg (dlCons (dNd rfl ⟨_, rfl, hx⟩) (dlCons (dNd rfl rfl) dlNil))) (dlCons (dAgg (dlCons (dNd rfl ⟨_, rfl⟩) (dlCons (dNd rfl ⟨_, rfl⟩) (dlCons (dNd rfl ⟨_, rfl⟩) dlNil)))) dlNil)) (dTup' (dlCons (dAgg (dlCons (dNd rfl ⟨_, rfl⟩) (dlCons (dNd rfl ⟨_, rfl⟩) (dlCons (dNd rfl ⟨_, rfl⟩) (dlCons (dNd rfl ⟨_, rfl, o3⟩) (dlCons (dNd rfl ⟨_, rfl, o4⟩) (dlCons (dNd rfl ⟨_, rfl, o5⟩) (dlCons (dNd rfl ⟨_, rfl, o6⟩) (dlCons (dNd rfl ⟨_, rfl⟩) (dlCons (dNd rfl ⟨_, rfl⟩) dlNil)))))))))) (dlCons (dNd rfl ⟨_, rfl⟩) dlNil))) (fun H9 hk => hmk ▸ k_spec_MarkIn H9 x hx ms hr _ (sl25.keep hk ⟨by first | assumption | exact Apart.symm (by assumption), trivial⟩) a b c (mx40 mxms))) .nil)
    · exact (envEq (put_ne rfl b21) (dAgg (dlCons (dNd rfl ⟨_, rfl, hx⟩) (dlCons (dNd rfl (slOne hS)) dlNil))) (envEq (put_ne rfl b22) (dAgg (dlCons (dNd rfl ⟨_, rfl⟩) (dlCons (dNd rfl ⟨_, rfl⟩) (dlCons (dNd rfl ⟨_, rfl⟩) dlNil)))) (envEq (put_ne rfl e7) (dPtr (l := p6) (o := 0) rfl) (envEq (put_ne rfl e11) (dPtr (l := p10) (o := 0) rfl) (envEq (put_ne rfl e15) (dPtr (l := p14) (o := 0) rfl) (envEq put_same (dAgg (dlCons (dNd rfl ⟨_, rfl, hx⟩) (dlCons (dNd rfl rfl) dlNil))) envNil))))))
    refine all1 (by kernel_rfl) ?_
    intro vs ls H34 E34 st hE
    have r35 : H34.get p6 = some (.row [.int .i32 v0, .int .i32 v1, .int .i32 v2, .flt .f32 v3, .flt .f32 v4, .flt .f32 v5, .flt .f32 v6, .int .i64 v7, .int .i64 v8] true) := row_whole st.inn 2 (l := p6) (b := 0) rfl (by kernel_rfl)
    have b36 : E34 24 = .agg [.flt .f32 x, S] := env_of st.inn hE 24 (by kernel_rfl)
    have b37 : E34 3 = .ptr p14 0 := env_of st.inn hE 3 (by kernel_rfl)
    have b38 : E34 6 = .ptr p6 0 := env_of st.inn hE 6 (by kernel_rfl)
    have b39 : E34 7 = .int .i64 code := env_of st.inn hE 7 (by kernel_rfl)
    have b40 : E34 2 = .ptr p10 0 := env_of st.inn hE 2 (by kernel_rfl)
    have g42 : Grew H H34 := grew_own g30 st.inn.kept ⟨op6, trivial⟩
    have r43 := kept_at st.inn.kept r32 ⟨by first | assumption | exact Apart.symm (by assumption), trivial⟩
    have r44 := kept_at st.inn.kept r33 ⟨by first | assumption | exact Apart.symm (by assumption), trivial⟩
    have s45 := sl25.keep st.inn.kept ⟨by first | assumption | exact Apart.symm (by assumption), trivial⟩
    clear st hE vs ls
    refine res_call (d := (some 25)) (f := 32) (args := [.tmp 24]) (by kernel_rfl) (R := fun z H' => Grew H34 H' ∧ ∃ l, H34.next ≤ l ∧ z = .agg [.flt .f32 x, .slice l 0 ms.length ms.length 9] ∧ H'.get l = some (.row ms.flatten true)) ?_ ?_
    · show ACalls _ _ [E34 24] _ _
      rw [b36]
      exact k_toLandMap H34 x hx ms hr S (hS.grew g42) mxms
    rintro z H47 ⟨gl46, l46, hl46, rfl, rowl46⟩
    have ne48 : Apart l46 p10 := ⟨Nat.ne_of_gt (Nat.lt_of_lt_of_le (H34.lt_of_get r43) hl46)⟩
    have ne49 : Apart l46 p14 := ⟨Nat.ne_of_gt (Nat.lt_of_lt_of_le (H34.lt_of_get r44) hl46)⟩
    have ne50 : Apart l46 p6 := ⟨Nat.ne_of_gt (Nat.lt_of_lt_of_le (H34.lt_of_get r35) hl46)⟩
    have ne51 : Apart l46 l25 := ⟨Nat.ne_of_gt (Nat.lt_of_lt_of_le s45.lt hl46)⟩
    have g52 : Grew H H47 := Grew.trans g42 gl46
    have r53 := gl46.at r43
    have r54 := gl46.at r44
    have r55 := gl46.at r35
    have s56 := s45.grew gl46
    have sl46 : SlL H47 9 ms (.slice l46 0 ms.length ms.length 9) := .sl (rest := []) (by simpa using rowl46) rfl (Nat.le_refl _)
    refine run_mn (φ := φ0) (pm := pmR 2 [(.call 37 [.agg [.nd 0 (.flt .f32), .nd 17 .one], .agg [.nd 2 (.int .i32), .nd 3 (.int .i32), .nd 4 (.int .i32)]], .tup [.agg [.nd 5 (.int .i32), .nd 6 (.int .i32), .nd 7 (.int .i32), .nd 8 (.flt .f32), .nd 9 (.flt .f32), .nd 10 (.flt .f32), .nd 11 (.flt .f32), .nd 12 (.int .i64), .nd 13 (.int .i64)], .nd 14 (.int .i64)]), (.call 38 [.agg [.nd 5 (.int .i32), .nd 6 (.int .i32), .nd 7 (.int .i32), .nd 8 (.flt .f32), .nd 9 (.flt .f32), .nd 10 (.flt .f32), .nd 11 (.flt .f32), .nd 12 (.int .i64), .nd 13 (.int .i64)], .agg [.nd 5 (.int .i32), .nd 6 (.int .i32), .nd 7 (.int .i32), .nd 8 (.flt .f32), .nd 9 (.flt .f32), .nd 10 (.flt .f32), .nd 11 (.flt .f32), .nd 12 (.int .i64), .nd 13 (.int .i64)]], .lit (.bool true))] 0) 20 (nk := [(.atom 0, .flt .f32), (.atom 1, .one), (.atom 2, .int .i32), (.atom 3, .int .i32), (.atom 4, .int .i32), (.atom 5, .int .i32), (.atom 6, .int .i32), (.atom 7, .int .i32), (.atom 8, .flt .f32), (.atom 9, .flt .f32), (.atom 10, .flt .f32), (.atom 11, .flt .f32), (.atom 12, .int .i64), (.atom 13, .int .i64), (.atom 14, .int .i64), (.atom 15, .int .i64), (.atom 16, .one), (.atom 17, .one)]) (fs := []) (xs := [.flt .f32 x, S, .int .i32 a, .int .i32 b, .int .i32 c, .int .i32 v0, .int .i32 v1, .int .i32 v2, .flt .f32 v3, .flt .f32 v4, .flt .f32 v5, .flt .f32 v6, .int .i64 v7, .int .i64 v8, .int .i64 code, .int .i64 q1, .slice l25 0 ms.length ms.length 9, .slice l46 0 ms.length ms.length 9]) (ws := [⟨p10, 0, [.nd 0 (.flt .f32), .nd 1 .one], false⟩, ⟨p14, 0, [.nd 2 (.int .i32), .nd 3 (.int .i32), .nd 4 (.int .i32)], false⟩, ⟨p6, 0, [.nd 5 (.int .i32), .nd 6 (.int .i32), .nd 7 (.int .i32), .nd 8 (.flt .f32), .nd 9 (.flt .f32), .nd 10 (.flt .f32), .nd 11 (.flt .f32), .nd 12 (.int .i64), .nd 13 (.int .i64)], true⟩]) (env := [(24, .agg [.nd 0 (.flt .f32), .nd 1 .one]), (3, .ptr 1 0), (6, .ptr 2 0), (7, .nd 14 (.int .i64)), (2, .ptr 0 0), (25, .agg [.nd 0 (.flt .f32), .nd 17 .one])]) ?_ ?_ tb_ok ap_ok ?_
    · refine midN_in ?_ .nil _ ?_ ?_ ?_
      · exact (.cons rfl ⟨_, rfl, hx⟩ (.cons rfl (slOne hS) (.cons rfl ⟨_, rfl⟩ (.cons rfl ⟨_, rfl⟩ (.cons rfl ⟨_, rfl⟩ (.cons rfl ⟨_, rfl⟩ (.cons rfl ⟨_, rfl⟩ (.cons rfl ⟨_, rfl⟩ (.cons rfl ⟨_, rfl, o3⟩ (.cons rfl ⟨_, rfl, o4⟩ (.cons rfl ⟨_, rfl, o5⟩ (.cons rfl ⟨_, rfl, o6⟩ (.cons rfl ⟨_, rfl⟩ (.cons rfl ⟨_, rfl⟩ (.cons rfl ⟨_, rfl⟩ (.cons rfl ⟨_, rfl⟩ (.cons rfl rfl (.cons rfl rfl .nil))))))))))))))))))
      · exact (.cons (win_row r53 (dlCons (dNd rfl ⟨_, rfl, hx⟩) (dlCons (dNd rfl (slOne hS)) dlNil))) (.cons (win_row r54 (dlCons (dNd rfl ⟨_, rfl⟩) (dlCons (dNd rfl ⟨_, rfl⟩) (dlCons (dNd rfl ⟨_, rfl⟩) dlNil)))) (.cons (win_own r55 (dlCons (dNd rfl ⟨_, rfl⟩) (dlCons (dNd rfl ⟨_, rfl⟩) (dlCons (dNd rfl ⟨_, rfl⟩) (dlCons (dNd rfl ⟨_, rfl, o3⟩) (dlCons (dNd rfl ⟨_, rfl, o4⟩) (dlCons (dNd rfl ⟨_, rfl, o5⟩) (dlCons (dNd rfl ⟨_, rfl, o6⟩) (dlCons (dNd rfl ⟨_, rfl⟩) (dlCons (dNd rfl ⟨_, rfl⟩) dlNil)))))))))) .nil)))
      · exact ⟨(fun v hv h => (by simp at hv; rcases hv with rfl | rfl <;> first | (simp at h; done) | exact Apart.ne (by assumption) | exact (Apart.ne (by assumption)).symm)), ⟨(fun v hv h => (by simp at hv; rcases hv with rfl <;> first | (simp at h; done) | exact Apart.ne (by assumption) | exact (Apart.ne (by assumption)).symm)), ⟨(fun v hv => (by cases hv)), trivial⟩⟩⟩
      · exact (.cons (rule_call (args := [.agg [.flt .f32 x, .slice l46 0 ms.length ms.length 9], .agg [.int .i32 a, .int .i32 b, .int .i32 c]]) (dlCons (dAgg (dlCons (dNd rfl ⟨_, rfl, hx⟩) (dlCons (dNd rfl rfl) dlNil))) (dlCons (dAgg (dlCons (dNd rfl ⟨_, rfl⟩) (dlCons (dNd rfl ⟨_, rfl⟩) (dlCons (dNd rfl ⟨_, rfl⟩) dlNil)))) dlNil)) (dTup' (dlCons (dAgg (dlCons (dNd rfl ⟨_, rfl⟩) (dlCons (dNd rfl ⟨_, rfl⟩) (dlCons (dNd rfl ⟨_, rfl⟩) (dlCons (dNd rfl ⟨_, rfl, o3⟩) (dlCons (dNd rfl ⟨_, rfl, o4⟩) (dlCons (dNd rfl ⟨_, rfl, o5⟩) (dlCons (dNd rfl ⟨_, rfl, o6⟩) (dlCons (dNd rfl ⟨_, rfl⟩) (dlCons (dNd rfl ⟨_, rfl⟩) dlNil)))))))))) (dlCons (dNd rfl ⟨_, rfl⟩) dlNil))) (fun H9 hk => hmk ▸ k_impl_MarkIn H9 x hx ms hr _ (sl46.keep hk ⟨by first | assumption | exact Apart.symm (by assumption), trivial⟩) a b c (mx40 mxms))) (.cons (rule_call (args := [.agg [.int .i32 v0, .int .i32 v1, .int .i32 v2, .flt .f32 v3, .flt .f32 v4, .flt .f32 v5, .flt .f32 v6, .int .i64 v7, .int .i64 v8], .agg [.int .i32 v0, .int .i32 v1, .int .i32 v2, .flt .f32 v3, .flt .f32 v4, .flt .f32 v5, .flt .f32 v6, .int .i64 v7, .int .i64 v8]]) (dlCons (dAgg (dlCons (dNd rfl ⟨_, rfl⟩) (dlCons (dNd rfl ⟨_, rfl⟩) (dlCons (dNd rfl ⟨_, rfl⟩) (dlCons (dNd rfl ⟨_, rfl, o3⟩) (dlCons (dNd rfl ⟨_, rfl, o4⟩) (dlCons (dNd rfl ⟨_, rfl, o5⟩) (dlCons (dNd rfl ⟨_, rfl, o6⟩) (dlCons (dNd rfl ⟨_, rfl⟩) (dlCons (dNd rfl ⟨_, rfl⟩) dlNil)))))))))) (dlCons (dAgg (dlCons (dNd rfl ⟨_, rfl⟩) (dlCons (dNd rfl ⟨_, rfl⟩) (dlCons (dNd rfl ⟨_, rfl⟩) (dlCons (dNd rfl ⟨_, rfl, o3⟩) (dlCons (dNd rfl ⟨_, rfl, o4⟩) (dlCons (dNd rfl ⟨_, rfl, o5⟩) (dlCons (dNd rfl ⟨_, rfl, o6⟩) (dlCons (dNd rfl ⟨_, rfl⟩) (dlCons (dNd rfl ⟨_, rfl⟩) dlNil)))))))))) dlNil)) (dLit rfl) (fun H9 hk => k_eqMark [.int .i32 v0, .int .i32 v1, .int .i32 v2, .flt .f32 v3, .flt .f32 v4, .flt .f32 v5, .flt .f32 v6, .int .i64 v7, .int .i64 v8] (.cons ⟨_, rfl⟩ (.cons ⟨_, rfl⟩ (.cons ⟨_, rfl⟩ (.cons ⟨_, rfl, o3⟩ (.cons ⟨_, rfl, o4⟩ (.cons ⟨_, rfl, o5⟩ (.cons ⟨_, rfl, o6⟩ (.cons ⟨_, rfl⟩ (.cons ⟨_, rfl⟩ .nil))))))))) H9)) .nil))
    · exact (envEq (put_ne rfl b36) (dAgg (dlCons (dNd rfl ⟨_, rfl, hx⟩) (dlCons (dNd rfl (slOne hS)) dlNil))) (envEq (put_ne rfl b37) (dPtr (l := p14) (o := 0) rfl) (envEq (put_ne rfl b38) (dPtr (l := p6) (o := 0) rfl) (envEq (put_ne rfl b39) (dNd rfl ⟨_, rfl⟩) (envEq (put_ne rfl b40) (dPtr (l := p10) (o := 0) rfl) (envEq put_same (dAgg (dlCons (dNd rfl ⟨_, rfl, hx⟩) (dlCons (dNd rfl rfl) dlNil))) envNil))))))
    refine all1 (by kernel_rfl) ?_
    intro vs ls H57 E57 st hE
    have b58 : E57 43 = .agg [.flt .f32 x, S] := env_of st.inn hE 43 (by kernel_rfl)
    have b59 : E57 42 = .agg [.flt .f32 x, .slice l46 0 ms.length ms.length 9] := env_of st.inn hE 42 (by kernel_rfl)
    have g60 : Grew H47 H57 := (st.kept.grew (Nat.le_of_ble_eq_true (by kernel_rfl)))
    have g61 : Grew H H57 := Grew.trans g52 g60
    have r62 := g60.at r53
    have r63 := g60.at r54
    have r64 := g60.at r55
    have s65 := s56.grew g60
    have s66 := sl46.grew g60
    clear st hE vs ls
    refine res_kid (free := false) (d := (some 44)) (f := 32) (args := [.tmp 43]) (by kernel_rfl) (R := fun z H' => Grew H57 H' ∧ ∃ l, H57.next ≤ l ∧ z = .agg [.flt .f32 x, .slice l 0 ms.length ms.length 9] ∧ H'.get l = some (.row ms.flatten true)) ?_ ?_
    · show ACalls _ _ [E57 43] _ _
      rw [b58]
      exact k_toLandMap H57 x hx ms hr S (hS.grew g61) mxms
    rintro z H68 ⟨gl67, l67, hl67, rfl, rowl67⟩
    refine ⟨gl67, ?_⟩
    have ne69 : Apart l67 l25 := ⟨Nat.ne_of_gt (Nat.lt_of_lt_of_le s65.lt hl67)⟩
    have ne70 : Apart l67 l46 := ⟨Nat.ne_of_gt (Nat.lt_of_lt_of_le s66.lt hl67)⟩
    have g71 : Grew H H68 := Grew.trans g61 gl67
    have s72 := s65.grew gl67
    have s73 := s66.grew gl67
    have sl67 : SlL H68 9 ms (.slice l67 0 ms.length ms.length 9) := .sl (rest := []) (by simpa using rowl67) rfl (Nat.le_refl _)
    refine run_mn (φ := φ0) (pm := pmR 0 [(.call 27 [.agg [.nd 0 (.flt .f32), .nd 17 .one], .agg [.nd 0 (.flt .f32), .nd 18 .one]], .lit (.bool true))] 0) 20 (nk := [(.atom 0, .flt .f32), (.atom 1, .one), (.atom 2, .int .i32), (.atom 3, .int .i32), (.atom 4, .int .i32), (.atom 5, .int .i32), (.atom 6, .int .i32), (.atom 7, .int .i32), (.atom 8, .flt .f32), (.atom 9, .flt .f32), (.atom 10, .flt .f32), (.atom 11, .flt .f32), (.atom 12, .int .i64), (.atom 13, .int .i64), (.atom 14, .int .i64), (.atom 15, .int .i64), (.atom 16, .one), (.atom 17, .one), (.atom 18, .one)]) (fs := []) (xs := [.flt .f32 x, S, .int .i32 a, .int .i32 b, .int .i32 c, .int .i32 v0, .int .i32 v1, .int .i32 v2, .flt .f32 v3, .flt .f32 v4, .flt .f32 v5, .flt .f32 v6, .int .i64 v7, .int .i64 v8, .int .i64 code, .int .i64 q1, .slice l25 0 ms.length ms.length 9, .slice l46 0 ms.length ms.length 9, .slice l67 0 ms.length ms.length 9]) (ws := []) (env := [(43, .agg [.nd 0 (.flt .f32), .nd 1 .one]), (42, .agg [.nd 0 (.flt .f32), .nd 17 .one]), (44, .agg [.nd 0 (.flt .f32), .nd 18 .one])]) ?_ ?_ tb_ok ap_ok ?_
    · refine midN_in ?_ .nil _ ?_ ?_ ?_
      · exact (.cons rfl ⟨_, rfl, hx⟩ (.cons rfl (slOne hS) (.cons rfl ⟨_, rfl⟩ (.cons rfl ⟨_, rfl⟩ (.cons rfl ⟨_, rfl⟩ (.cons rfl ⟨_, rfl⟩ (.cons rfl ⟨_, rfl⟩ (.cons rfl ⟨_, rfl⟩ (.cons rfl ⟨_, rfl, o3⟩ (.cons rfl ⟨_, rfl, o4⟩ (.cons rfl ⟨_, rfl, o5⟩ (.cons rfl ⟨_, rfl, o6⟩ (.cons rfl ⟨_, rfl⟩ (.cons rfl ⟨_, rfl⟩ (.cons rfl ⟨_, rfl⟩ (.cons rfl ⟨_, rfl⟩ (.cons rfl rfl (.cons rfl rfl (.cons rfl rfl .nil)))))))))))))))))))
      · exact .nil
      · exact sepOk_ro rfl
      · exact (.cons (rule_call (args := [.agg [.flt .f32 x, .slice l46 0 ms.length ms.length 9], .agg [.flt .f32 x, .slice l67 0 ms.length ms.length 9]]) (dlCons (dAgg (dlCons (dNd rfl ⟨_, rfl, hx⟩) (dlCons (dNd rfl rfl) dlNil))) (dlCons (dAgg (dlCons (dNd rfl ⟨_, rfl, hx⟩) (dlCons (dNd rfl rfl) dlNil))) dlNil)) (dLit rfl) (fun H9 hk => k_eqLandMap H9 x hx ms hr _ _ (s73.grew (hk.grew (Nat.le_refl _))) (sl67.grew (hk.grew (Nat.le_refl _))) (mx40 mxms))) .nil)
    · exact (envEq (put_ne rfl b58) (dAgg (dlCons (dNd rfl ⟨_, rfl, hx⟩) (dlCons (dNd rfl (slOne hS)) dlNil))) (envEq (put_ne rfl b59) (dAgg (dlCons (dNd rfl ⟨_, rfl, hx⟩) (dlCons (dNd rfl rfl) dlNil))) (envEq put_same (dAgg (dlCons (dNd rfl ⟨_, rfl, hx⟩) (dlCons (dNd rfl rfl) dlNil))) envNil)))
    refine all1 (by kernel_rfl) ?_
    intro vs ls H74 E74 st hE
    exact res_ex (by kernel_rfl) (end_same st.inn hE (.inr rfl) (a := .bool true) (by kernel_rfl) (Nat.le_trans g71.next st.kept.1) rfl)
end Go.Proofs.Ytgjhjemmddojfaa
