/- The law of ValidMap, walked. -/
import Derived.Test.YtgjhjemmddojfaaMap
import Derived.Test.YtgjhjemmddojfaaSxC
set_option linter.unusedVariables false
set_option linter.unusedSimpArgs false
namespace Go.Proofs.Ytgjhjemmddojfaa
open Go.Ab
set_option maxRecDepth 100000
attribute [local irreducible] Res
theorem k_spec_ValidMap (H : AHeap) (x : Option Nat) (hx : fOk .f32 x) (S : AV) (ms : List (List AV)) (hr : Recs KM ms) (hS : SlL H 9 ms S) (hmax : ms.length < 2 ^ 40) : APure Try.prog 34 [.agg [.flt .f32 x, S]] H (.bool (okMap x ms)) := by
  refine res_start h_spec_ValidMap (by simp) ?_
  refine run_mn (φ := φ0) (pm := pmR 0 [] 0) 0 (nk := [(.atom 0, .flt .f32), (.atom 1, .one)]) (fs := []) (xs := [.flt .f32 x, S]) (ws := []) (env := [(0, .agg [.nd 0 (.flt .f32), .nd 1 .one])]) ?_ ?_ tb_ok ap_ok ?_
  · exact midN_in (by exact .cons rfl ⟨_, rfl, hx⟩ (.cons rfl (slOne hS) .nil)) .nil _ .nil trivial .nil
  · exact envCons (dAgg (dlCons (dNd rfl ⟨_, rfl, hx⟩) (dlCons (dNd rfl (slOne hS)) dlNil))) envNil
  refine all1 (by kernel_rfl) ?_
  intro vs ls H1 E1 st hE
  obtain ⟨p, e1, r1, _⟩ := ptr_of st.inn hE 1 0 (by kernel_rfl) (ds := [.flt .f32 x, S]) (by kernel_rfl)
  have g1 : Grew H H1 := (st.kept.grew (Nat.le_of_ble_eq_true (by kernel_rfl)))
  clear st hE vs ls
  refine res_call (d := some 3) (f := 72) (args := [.tmp 1]) (by kernel_rfl) (R := fun r H' => r = .bool (okMap x ms) ∧ H' = H1) ?_ ?_
  · show ACalls _ _ [E1 1] _ _
    rw [e1]
    exact k_l05Ok H1 p x hx S true ms hr r1 (hS.grew g1) hmax
  rintro r H2 ⟨rfl, rfl⟩
  refine run_mn (φ := φ0) (pm := pmR 0 [] 0) 20 (nk := [(.atom 0, .bool)]) (fs := []) (xs := [.bool (okMap x ms)]) (ws := []) (env := [(3, .nd 0 .bool)]) ?_ ?_ tb_ok ap_ok ?_
  · exact midN_in (by exact .cons rfl ⟨_, rfl⟩ .nil) .nil _ .nil trivial .nil
  · exact envNd (by rw [Env.put_some]; simp) rfl ⟨_, rfl⟩ envNil
  · refine all1 (by kernel_rfl) ?_
    intro vs ls H3 E3 st hE
    exact res_ex (by kernel_rfl) (end_flat st.inn hE (.inr rfl) (a := .bool (okMap x ms)) (by kernel_rfl) (g1.trans (st.kept.grew (Nat.le_of_ble_eq_true (by kernel_rfl)))) rfl ⟨rfl, rfl⟩)
/-- The argument of a law: a map. -/
theorem mapArg {H : AHeap} {a : AV} (h : FitArg H (true, [.flt .f32, .sl [.int .i32, .int .i32, .int .i32, .flt .f32, .flt .f32, .flt .f32, .flt .f32, .int .i64, .int .i64]]) a) : ∃ (x : Option Nat) (ms : List (List AV)) (S : AV), a = .agg [.flt .f32 x, S] ∧ fOk .f32 x ∧ Recs KM ms ∧ SlL H 9 ms S ∧ ms.length ≤ 9223372036854775807 := by
  obtain ⟨cs, rfl, hl, hc⟩ := h
  match cs, hl with
  | [c0, c1], _ =>
    have h0 := hc 0 _ _ rfl rfl
    have h1 := hc 1 _ _ rfl rfl
    cases h0 with
    | flt h0 =>
      obtain ⟨ms, g1, g2, g3⟩ := slArg (ks := KM) (sz := 9) h1 rfl rfl
      exact ⟨_, ms, c1, rfl, h0, g1, g2, g3⟩
theorem lawExactValidMap (H : AHeap) (vs : List AV) (h : FitArgs H [(true, [.flt .f32, .sl [.int .i32, .int .i32, .int .i32, .flt .f32, .flt .f32, .flt .f32, .flt .f32, .int .i64, .int .i64]])] vs) : ACalls Try.prog 8 vs H fun r _ => r = .bool true := by
  match vs, h with
  | [a], h =>
  obtain ⟨x, ms, S, rfl, hx, hr, hS, hmx⟩ := mapArg h.1
  clear h
  refine res_start h_laws_FnExactValidMap (by simp) ?_
  have hk : ∀ H3, Kept 0 [] H H3 → APure Try.prog 30 [.agg [.flt .f32 x, S], .int .i64 1048576] H3 (.int .i64 (if (1048576 : Int) - ms.length < 0 then -1 else 1048576 - ms.length)) := fun H3 hk => k_szLandMap H3 x hx ms S (hS.grew (hk.grew (Nat.le_refl _))) 1048576 (by omega) (by omega) hmx
  have hr1 : ¬ (if (1048576 : Int) - (ms.length : Int) < 0 then -1 else 1048576 - (ms.length : Int)) < 0 → ms.length ≤ 1048576 := by intro h; split at h <;> omega
  generalize (if (1048576 : Int) - (ms.length : Int) < 0 then -1 else 1048576 - (ms.length : Int)) = r at hk hr1
  refine run_mn (φ := φ0) (pm := pmR 0 [(.call 30 [.agg [.nd 0 (.flt .f32), .nd 1 .one], .lit (.int .i64 1048576)], .nd 2 (.int .i64))] 0) 20 (nk := [(.atom 0, .flt .f32), (.atom 1, .one), (.atom 2, .int .i64)]) (fs := []) (xs := [.flt .f32 x, S, .int .i64 r]) (ws := []) (env := [(0, .agg [.nd 0 (.flt .f32), .nd 1 .one])]) ?_ ?_ tb_ok ap_ok ?_
  · refine midN_in ?_ .nil _ .nil trivial ?_
    · exact .cons rfl ⟨_, rfl, hx⟩ (.cons rfl (slOne hS) (.cons rfl ⟨_, rfl⟩ .nil))
    · exact .cons (rule_call (args := [.agg [.flt .f32 x, S], .int .i64 1048576]) (dlCons (dAgg (dlCons (dNd rfl ⟨_, rfl, hx⟩) (dlCons (dNd rfl (slOne hS)) dlNil))) (dlCons (dLit rfl) dlNil)) (dNd rfl ⟨_, rfl⟩) hk) .nil
  · exact envCons (dAgg (dlCons (dNd rfl ⟨_, rfl, hx⟩) (dlCons (dNd rfl (slOne hS)) dlNil))) envNil
  refine all2 (by kernel_rfl) ?_ ?_
  · intro vs ls H1 E1 st hE
    exact res_ex (by kernel_rfl) (end_same st.inn hE (.inr rfl) (a := .bool true) (by kernel_rfl) st.kept.1 rfl)
  intro vs ls H1 E1 st hE
  have f0 : decide (r < 0) = false := bfact st.inn 0 (by kernel_rfl)
  have hmax := hr1 (of_decide_eq_false f0)
  have a12 : E1 12 = .agg [.flt .f32 x, S] := env_of st.inn hE 12 (by kernel_rfl)
  obtain ⟨p, e1, r1, n1⟩ := ptr_of st.inn hE 1 0 (by kernel_rfl) (ds := [.flt .f32 x, S]) (by kernel_rfl)
  have g1 : Grew H H1 := (st.kept.grew (Nat.le_of_ble_eq_true (by kernel_rfl)))
  clear st hE vs ls hk hr1 f0 n1
  refine res_call (d := some 13) (f := 32) (args := [.tmp 12]) (by kernel_rfl) (R := fun r H' => Grew H1 H' ∧ ∃ l, H1.next ≤ l ∧ r = .agg [.flt .f32 x, .slice l 0 ms.length ms.length 9] ∧ H'.get l = some (.row ms.flatten true)) ?_ ?_
  · show ACalls _ _ [E1 12] _ _
    rw [a12]
    exact k_toLandMap H1 x hx ms hr S (hS.grew g1) hmax
  rintro r' H2 ⟨g2, l2, hl2, rfl, row2⟩
  have g12 := g1.trans g2
  have r1' := g2.at r1
  have sl2 : SlL H2 9 ms (.slice l2 0 ms.length ms.length 9) := .sl (rest := []) (by simpa using row2) rfl (Nat.le_refl _)
  refine run_mn (φ := φ0) (pm := pmR 1 [(.call 34 [.agg [.nd 0 (.flt .f32), .nd 2 .one]], .nd 3 .bool)] 0) 20 (nk := [(.atom 0, .flt .f32), (.atom 1, .one), (.atom 2, .one), (.atom 3, .bool)]) (fs := []) (xs := [.flt .f32 x, S, .slice l2 0 ms.length ms.length 9, .bool (okMap x ms)]) (ws := [⟨p, 0, [.nd 0 (.flt .f32), .nd 1 .one], false⟩]) (env := [(1, .ptr 0 0), (13, .agg [.nd 0 (.flt .f32), .nd 2 .one])]) ?_ ?_ tb_ok ap_ok ?_
  · refine midN_in ?_ .nil _ ?_ ?_ ?_
    · exact .cons rfl ⟨_, rfl, hx⟩ (.cons rfl (slOne hS) (.cons rfl rfl (.cons rfl ⟨_, rfl⟩ .nil)))
    · exact .cons (win_row r1' (dlCons (dNd rfl ⟨_, rfl, hx⟩) (dlCons (dNd rfl (slOne hS)) dlNil))) .nil
    · exact ⟨fun v hv => (by cases hv), trivial⟩
    · exact .cons (rule_call (args := [.agg [.flt .f32 x, .slice l2 0 ms.length ms.length 9]]) (dlCons (dAgg (dlCons (dNd rfl ⟨_, rfl, hx⟩) (dlCons (dNd rfl rfl) dlNil))) dlNil) (dNd rfl ⟨_, rfl⟩) (fun H3 hk => k_spec_ValidMap H3 x hx _ ms hr (sl2.grew (hk.grew (Nat.le_refl _))) (by omega))) .nil
  · exact envPtr (l := p) (o := 0) (by rw [Env.put_some]; simpa using e1) rfl rfl (envCons (by rw [Env.put_some]; simp only [↓reduceIte]; exact dAgg (dlCons (dNd rfl ⟨_, rfl, hx⟩) (dlCons (dNd rfl rfl) dlNil))) envNil)
  refine all1 (by kernel_rfl) ?_
  intro vs ls H3 E3 st hE
  have b4 : E3 4 = .bool (okMap x ms) := env_of st.inn hE 4 (by kernel_rfl)
  have b15 : E3 15 = .agg [.flt .f32 x, S] := env_of st.inn hE 15 (by kernel_rfl)
  have b1 : E3 1 = .ptr p 0 := env_of st.inn hE 1 (by kernel_rfl)
  have g3 : Grew H2 H3 := (st.kept.grew (Nat.le_of_ble_eq_true (by kernel_rfl)))
  clear st hE vs ls
  refine res_call (d := some 16) (f := 32) (args := [.tmp 15]) (by kernel_rfl) (R := fun r H' => Grew H3 H' ∧ ∃ l, H3.next ≤ l ∧ r = .agg [.flt .f32 x, .slice l 0 ms.length ms.length 9] ∧ H'.get l = some (.row ms.flatten true)) ?_ ?_
  · show ACalls _ _ [E3 15] _ _
    rw [b15]
    exact k_toLandMap H3 x hx ms hr S (hS.grew (g12.trans g3)) hmax
  rintro r' H4 ⟨g4, l3, hl3, rfl, row3⟩
  have r1'' := (g3.trans g4).at r1'
  have sl3 : SlL H4 9 ms (.slice l3 0 ms.length ms.length 9) := .sl (rest := []) (by simpa using row3) rfl (Nat.le_refl _)
  refine run_mn (φ := φ0) (pm := pmR 1 [(.call 35 [.agg [.nd 0 (.flt .f32), .nd 2 .one]], .nd 3 .bool)] 0) 20 (nk := [(.atom 0, .flt .f32), (.atom 1, .one), (.atom 2, .one), (.atom 3, .bool)]) (fs := []) (xs := [.flt .f32 x, S, .slice l3 0 ms.length ms.length 9, .bool (okMap x ms)]) (ws := [⟨p, 0, [.nd 0 (.flt .f32), .nd 1 .one], false⟩]) (env := [(1, .ptr 0 0), (4, .nd 3 .bool), (16, .agg [.nd 0 (.flt .f32), .nd 2 .one])]) ?_ ?_ tb_ok ap_ok ?_
  · refine midN_in ?_ .nil _ ?_ ?_ ?_
    · exact .cons rfl ⟨_, rfl, hx⟩ (.cons rfl (slOne hS) (.cons rfl rfl (.cons rfl ⟨_, rfl⟩ .nil)))
    · exact .cons (win_row r1'' (dlCons (dNd rfl ⟨_, rfl, hx⟩) (dlCons (dNd rfl (slOne hS)) dlNil))) .nil
    · exact ⟨fun v hv => (by cases hv), trivial⟩
    · exact .cons (rule_call (args := [.agg [.flt .f32 x, .slice l3 0 ms.length ms.length 9]]) (dlCons (dAgg (dlCons (dNd rfl ⟨_, rfl, hx⟩) (dlCons (dNd rfl rfl) dlNil))) dlNil) (dNd rfl ⟨_, rfl⟩) (fun H5 hk => k_impl_ValidMap H5 x hx _ ms hr (sl3.grew (hk.grew (Nat.le_refl _))) (by omega))) .nil
  · exact envPtr (l := p) (o := 0) (by rw [Env.put_some]; simpa using b1) rfl rfl (envNd (by rw [Env.put_some]; simpa using b4) rfl ⟨_, rfl⟩ (envCons (by rw [Env.put_some]; simp only [↓reduceIte]; exact dAgg (dlCons (dNd rfl ⟨_, rfl, hx⟩) (dlCons (dNd rfl rfl) dlNil))) envNil))
  refine all1 (by kernel_rfl) ?_
  intro vs ls H5 E5 st hE
  have c22 : E5 22 = .agg [.flt .f32 x, .slice l3 0 ms.length ms.length 9] := env_of st.inn hE 22 (by kernel_rfl)
  have c23 : E5 23 = .agg [.flt .f32 x, S] := env_of st.inn hE 23 (by kernel_rfl)
  have g5 : Grew H4 H5 := (st.kept.grew (Nat.le_of_ble_eq_true (by kernel_rfl)))
  clear st hE vs ls
  refine res_kid (free := false) (d := some 24) (f := 32) (args := [.tmp 23]) (by kernel_rfl) (R := fun r H' => Grew H5 H' ∧ ∃ l, H5.next ≤ l ∧ r = .agg [.flt .f32 x, .slice l 0 ms.length ms.length 9] ∧ H'.get l = some (.row ms.flatten true)) ?_ ?_
  · show ACalls _ _ [E5 23] _ _
    rw [c23]
    exact k_toLandMap H5 x hx ms hr S (hS.grew (((g12.trans g3).trans g4).trans g5)) hmax
  rintro r' H6 ⟨g6, l4, hl4, rfl, row4⟩
  refine ⟨g6, ?_⟩
  have sl3' := sl3.grew (g5.trans g6)
  have sl4 : SlL H6 9 ms (.slice l4 0 ms.length ms.length 9) := .sl (rest := []) (by simpa using row4) rfl (Nat.le_refl _)
  refine run_mn (φ := φ0) (pm := pmR 0 [(.call 27 [.agg [.nd 0 (.flt .f32), .nd 1 .one], .agg [.nd 0 (.flt .f32), .nd 2 .one]], .lit (.bool true))] 0) 20 (nk := [(.atom 0, .flt .f32), (.atom 1, .one), (.atom 2, .one)]) (fs := []) (xs := [.flt .f32 x, .slice l3 0 ms.length ms.length 9, .slice l4 0 ms.length ms.length 9]) (ws := []) (env := [(22, .agg [.nd 0 (.flt .f32), .nd 1 .one]), (24, .agg [.nd 0 (.flt .f32), .nd 2 .one])]) ?_ ?_ tb_ok ap_ok ?_
  · refine midN_in ?_ .nil _ .nil trivial ?_
    · exact .cons rfl ⟨_, rfl, hx⟩ (.cons rfl rfl (.cons rfl rfl .nil))
    · exact .cons (rule_call (args := [.agg [.flt .f32 x, .slice l3 0 ms.length ms.length 9], .agg [.flt .f32 x, .slice l4 0 ms.length ms.length 9]]) (dlCons (dAgg (dlCons (dNd rfl ⟨_, rfl, hx⟩) (dlCons (dNd rfl rfl) dlNil))) (dlCons (dAgg (dlCons (dNd rfl ⟨_, rfl, hx⟩) (dlCons (dNd rfl rfl) dlNil))) dlNil)) (dLit rfl)
        (fun H7 hk => k_eqLandMap H7 x hx ms hr _ _ (sl3'.grew (hk.grew (Nat.le_refl _))) (sl4.grew (hk.grew (Nat.le_refl _))) (by omega))) .nil
  · exact envCons (by rw [Env.put_some]; simp only [Nat.reduceEqDiff, ↓reduceIte]; rw [c22]; exact dAgg (dlCons (dNd rfl ⟨_, rfl, hx⟩) (dlCons (dNd rfl rfl) dlNil))) (envCons (by rw [Env.put_some]; simp only [↓reduceIte]; exact dAgg (dlCons (dNd rfl ⟨_, rfl, hx⟩) (dlCons (dNd rfl rfl) dlNil))) envNil)
  refine all1 (by kernel_rfl) ?_
  intro vs ls H7 E7 st hE
  have h7 : H.next ≤ H7.next := by
    have e1 := ((g12.trans g3).trans (g4.trans (g5.trans g6))).next
    have e2 := st.kept.1
    exact Nat.le_trans e1 e2
  exact res_ex (by kernel_rfl) (end_same st.inn hE (.inr rfl) (a := .bool true) (by kernel_rfl) h7 rfl)
end Go.Proofs.Ytgjhjemmddojfaa
