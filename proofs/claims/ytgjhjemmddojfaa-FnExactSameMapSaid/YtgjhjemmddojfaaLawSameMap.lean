/- The law of SameMap, walked. -/
import Derived.Test.YtgjhjemmddojfaaSame2
import Derived.Test.YtgjhjemmddojfaaLawValidMap
set_option linter.unusedVariables false
set_option linter.unusedSimpArgs false
namespace Go.Proofs.Ytgjhjemmddojfaa
open Go.Ab
set_option maxRecDepth 100000
attribute [local irreducible] Res
theorem k_spec_SameMap (H : AHeap) (x x' : Option Nat) (hx : fOk .f32 x) (hx' : fOk .f32 x') (ms ms' : List (List AV)) (hr : Recs KM ms) (hr' : Recs KM ms') (S S' : AV) (hS : SlL H 9 ms S) (hS' : SlL H 9 ms' S') (hmax : ms.length < 2 ^ 40) : APure Try.prog 31 [.agg [.flt .f32 x, S], .agg [.flt .f32 x', S']] H (.bool (sameN x x' && sameL ms ms')) := by
  refine res_start h_spec_SameMap (by simp) ?_
  refine run_mn (φ := φ0) (pm := pmR 0 [] 0) 0 (nk := [(.atom 0, .flt .f32), (.atom 1, .one), (.atom 2, .flt .f32), (.atom 3, .one)]) (fs := []) (xs := [.flt .f32 x, S, .flt .f32 x', S']) (ws := []) (env := [(0, .agg [.nd 0 (.flt .f32), .nd 1 .one]), (1, .agg [.nd 2 (.flt .f32), .nd 3 .one])]) ?_ ?_ tb_ok ap_ok ?_
  · refine midN_in ?_ .nil _ ?_ ?_ ?_
    · exact (.cons rfl ⟨_, rfl, hx⟩ (.cons rfl (slOne hS) (.cons rfl ⟨_, rfl, hx'⟩ (.cons rfl (slOne hS') .nil))))
    · exact .nil
    · exact trivial
    · exact .nil
  · exact (envCons (dAgg (dlCons (dNd rfl ⟨_, rfl, hx⟩) (dlCons (dNd rfl (slOne hS)) dlNil))) (envCons (dAgg (dlCons (dNd rfl ⟨_, rfl, hx'⟩) (dlCons (dNd rfl (slOne hS')) dlNil))) envNil))
  refine all1 (by kernel_rfl) ?_
  intro vs ls H1 E1 st hE
  obtain ⟨p, e2, r2, _⟩ := ptr_of st.inn hE 2 0 (by kernel_rfl) (ds := [.flt .f32 x, S]) (by kernel_rfl)
  obtain ⟨q, e3, r3, _⟩ := ptr_of st.inn hE 3 1 (by kernel_rfl) (ds := [.flt .f32 x', S']) (by kernel_rfl)
  have g1 : Grew H H1 := (st.kept.grew (Nat.le_of_ble_eq_true (by kernel_rfl)))
  clear st hE vs ls
  refine res_call (d := some 5) (f := 68) (args := [.tmp 2, .tmp 3]) (by kernel_rfl) (R := fun r H' => r = .bool (sameN x x' && sameL ms ms') ∧ H' = H1) ?_ ?_
  · show ACalls _ _ [E1 2, E1 3] _ _
    rw [e2, e3]
    exact k_l05Same H1 p q x x' hx hx' true true ms ms' hr hr' S S' (hS.grew g1) (hS'.grew g1) r2 r3 hmax
  rintro r H2 ⟨rfl, rfl⟩
  refine run_mn (φ := φ0) (pm := pmR 0 [] 0) 20 (nk := [(.atom 0, .bool)]) (fs := []) (xs := [.bool (sameN x x' && sameL ms ms')]) (ws := []) (env := [(5, .nd 0 .bool)]) ?_ ?_ tb_ok ap_ok ?_
  · exact midN_in (by exact .cons rfl ⟨_, rfl⟩ .nil) .nil _ .nil trivial .nil
  · exact envNd (by rw [Env.put_some]; simp) rfl ⟨_, rfl⟩ envNil
  · refine all1 (by kernel_rfl) ?_
    intro vs ls H3 E3 st hE
    exact res_ex (by kernel_rfl) (end_flat st.inn hE (.inr rfl) (a := .bool (sameN x x' && sameL ms ms')) (by kernel_rfl) (g1.trans (st.kept.grew (Nat.le_of_ble_eq_true (by kernel_rfl)))) rfl ⟨rfl, rfl⟩)
theorem lawExactSameMap (H : AHeap) (vs : List AV) (h : FitArgs H [(true, [.flt .f32, .sl [.int .i32, .int .i32, .int .i32, .flt .f32, .flt .f32, .flt .f32, .flt .f32, .int .i64, .int .i64]]), (true, [.flt .f32, .sl [.int .i32, .int .i32, .int .i32, .flt .f32, .flt .f32, .flt .f32, .flt .f32, .int .i64, .int .i64]])] vs) : ACalls Try.prog 7 vs H fun r _ => r = .bool true := by
  match vs, h with
  | [a, b], h =>
  obtain ⟨x, ms, S, rfl, hx, hr, hS, hmx⟩ := mapArg h.1
  obtain ⟨x', ms', S', rfl, hx', hr', hS', hmx'⟩ := mapArg h.2.1
  clear h
  refine res_start h_laws_FnExactSameMap (by simp) ?_
  have hk1 : ∀ H3, Kept 0 [] H H3 → APure Try.prog 30 [.agg [.flt .f32 x, S], .int .i64 1048576] H3 (.int .i64 (if (1048576 : Int) - ms.length < 0 then -1 else 1048576 - ms.length)) := fun H3 hk => k_szLandMap H3 x hx ms S (hS.grew (hk.grew (Nat.le_refl _))) 1048576 (by omega) (by omega) hmx
  have hr1 : ¬ (if (1048576 : Int) - (ms.length : Int) < 0 then -1 else 1048576 - (ms.length : Int)) < 0 → ms.length ≤ 1048576 := by intro h; split at h <;> omega
  have hr2 : (if (1048576 : Int) - (ms.length : Int) < 0 then -1 else 1048576 - (ms.length : Int)) ≤ 1048576 := by split <;> omega
  generalize (if (1048576 : Int) - (ms.length : Int) < 0 then -1 else 1048576 - (ms.length : Int)) = r at hk1 hr1 hr2
  refine run_mn (φ := φ0) (pm := pmR 0 [(.call 30 [.agg [.nd 0 (.flt .f32), .nd 1 .one], .lit (.int .i64 1048576)], .nd 4 (.int .i64))] 0) 0 (nk := [(.atom 0, .flt .f32), (.atom 1, .one), (.atom 2, .flt .f32), (.atom 3, .one), (.atom 4, .int .i64)]) (fs := []) (xs := [.flt .f32 x, S, .flt .f32 x', S', .int .i64 r]) (ws := []) (env := [(0, .agg [.nd 0 (.flt .f32), .nd 1 .one]), (1, .agg [.nd 2 (.flt .f32), .nd 3 .one])]) ?_ ?_ tb_ok ap_ok ?_
  · refine midN_in ?_ .nil _ ?_ ?_ ?_
    · exact (.cons rfl ⟨_, rfl, hx⟩ (.cons rfl (slOne hS) (.cons rfl ⟨_, rfl, hx'⟩ (.cons rfl (slOne hS') (.cons rfl ⟨_, rfl⟩ .nil)))))
    · exact .nil
    · exact trivial
    · exact (.cons (rule_call (args := [.agg [.flt .f32 x, S], .int .i64 1048576]) (dlCons (dAgg (dlCons (dNd rfl ⟨_, rfl, hx⟩) (dlCons (dNd rfl (slOne hS)) dlNil))) (dlCons (dLit rfl) dlNil)) (dNd rfl ⟨_, rfl⟩) hk1) .nil)
  · exact (envCons (dAgg (dlCons (dNd rfl ⟨_, rfl, hx⟩) (dlCons (dNd rfl (slOne hS)) dlNil))) (envCons (dAgg (dlCons (dNd rfl ⟨_, rfl, hx'⟩) (dlCons (dNd rfl (slOne hS')) dlNil))) envNil))
  refine all2 (by kernel_rfl) ?_ ?_
  · intro vs ls H1 E1 st hE
    exact res_ex (by kernel_rfl) (end_same st.inn hE (.inr rfl) (a := .bool true) (by kernel_rfl) st.kept.1 rfl)
  intro vs ls H0 E0 st hE
  have f0 : decide (r < 0) = false := bfact st.inn 0 (by kernel_rfl)
  have hmax := hr1 (of_decide_eq_false f0)
  have hr0 : 0 ≤ r := by have := of_decide_eq_false f0; omega
  have a5 : E0 5 = .int .i64 r := env_of st.inn hE 5 (by kernel_rfl)
  have a15 : E0 15 = .agg [.flt .f32 x', S'] := env_of st.inn hE 15 (by kernel_rfl)
  have a16 : E0 16 = .int .i64 r := env_of st.inn hE 16 (by kernel_rfl)
  obtain ⟨p, e2, r2, _⟩ := ptr_of st.inn hE 2 0 (by kernel_rfl) (ds := [.flt .f32 x, S]) (by kernel_rfl)
  obtain ⟨q, e3, r3, _⟩ := ptr_of st.inn hE 3 1 (by kernel_rfl) (ds := [.flt .f32 x', S']) (by kernel_rfl)
  have g0 : Grew H H0 := (st.kept.grew (Nat.le_of_ble_eq_true (by kernel_rfl)))
  clear st hE vs ls hk1 hr1 f0
  have hq1 : ¬ (if r - (ms'.length : Int) < 0 then -1 else r - (ms'.length : Int)) < 0 → ms'.length ≤ 1048576 := by intro h; split at h <;> omega
  refine res_call (d := some 17) (f := 30) (args := [.tmp 15, .tmp 16]) (by kernel_rfl) (R := fun z H' => z = .int .i64 (if r - (ms'.length : Int) < 0 then -1 else r - (ms'.length : Int)) ∧ H' = H0) ?_ ?_
  · show ACalls _ _ [E0 15, E0 16] _ _
    rw [a15, a16]
    exact k_szLandMap H0 x' hx' ms' S' (hS'.grew g0) r hr0 (by omega) hmx'
  rintro z H0 ⟨rfl, rfl⟩
  generalize (if r - (ms'.length : Int) < 0 then -1 else r - (ms'.length : Int)) = w at hq1 ⊢
  refine run_mn (φ := φ0) (pm := pmR 2 [] 0) 0 (nk := [(.atom 0, .flt .f32), (.atom 1, .one), (.atom 2, .flt .f32), (.atom 3, .one), (.atom 4, .int .i64)]) (fs := []) (xs := [.flt .f32 x, S, .flt .f32 x', S', .int .i64 w]) (ws := [⟨p, 0, [.nd 0 (.flt .f32), .nd 1 .one], false⟩, ⟨q, 0, [.nd 2 (.flt .f32), .nd 3 .one], false⟩]) (env := [(2, .ptr 0 0), (3, .ptr 1 0), (17, .nd 4 (.int .i64))]) ?_ ?_ tb_ok ap_ok ?_
  · refine midN_in ?_ .nil _ ?_ ?_ ?_
    · exact (.cons rfl ⟨_, rfl, hx⟩ (.cons rfl (slOne hS) (.cons rfl ⟨_, rfl, hx'⟩ (.cons rfl (slOne hS') (.cons rfl ⟨_, rfl⟩ .nil)))))
    · exact (.cons (win_row r2 (dlCons (dNd rfl ⟨_, rfl, hx⟩) (dlCons (dNd rfl (slOne hS)) dlNil))) (.cons (win_row r3 (dlCons (dNd rfl ⟨_, rfl, hx'⟩) (dlCons (dNd rfl (slOne hS')) dlNil))) .nil))
    · exact ⟨(fun v hv h => (by simp at hv; subst hv; simp at h)), ⟨(fun v hv => (by cases hv)), trivial⟩⟩
    · exact .nil
  · exact (envPtr (l := p) (o := 0) (by rw [Env.put_some]; simpa using e2) rfl rfl (envPtr (l := q) (o := 0) (by rw [Env.put_some]; simpa using e3) rfl rfl (envNd (by rw [Env.put_some]; simp) rfl ⟨_, rfl⟩ envNil)))
  refine all2 (by kernel_rfl) ?_ ?_
  · intro vs ls H1 E1 st hE
    have h7 : H.next ≤ H1.next := Nat.le_trans g0.next st.kept.1
    exact res_ex (by kernel_rfl) (end_same st.inn hE (.inr rfl) (a := .bool true) (by kernel_rfl) h7 rfl)
  intro vs ls H1 E1 st hE
  have f0 : decide (w < 0) = false := bfact st.inn 0 (by kernel_rfl)
  have hmax' := hq1 (of_decide_eq_false f0)
  have b2 : E1 2 = .ptr p 0 := env_of st.inn hE 2 (by kernel_rfl)
  have b3 : E1 3 = .ptr q 0 := env_of st.inn hE 3 (by kernel_rfl)
  have b20 : E1 20 = .agg [.flt .f32 x, S] := env_of st.inn hE 20 (by kernel_rfl)
  have b22 : E1 22 = .agg [.flt .f32 x', S'] := env_of st.inn hE 22 (by kernel_rfl)
  have g1 : Grew H0 H1 := (st.kept.grew (Nat.le_of_ble_eq_true (by kernel_rfl)))
  clear st hE vs ls hq1 f0 a5 a15 a16
  refine res_kid (free := false) (d := some 21) (f := 32) (args := [.tmp 20]) (by kernel_rfl) (R := fun r H' => Grew H1 H' ∧ ∃ l, H1.next ≤ l ∧ r = .agg [.flt .f32 x, .slice l 0 ms.length ms.length 9] ∧ H'.get l = some (.row ms.flatten true)) ?_ ?_
  · show ACalls _ _ [E1 20] _ _
    rw [b20]
    exact k_toLandMap H1 x hx ms hr S (hS.grew (g0.trans g1)) hmax
  rintro z H2 ⟨gA, lA, hlA, rfl, rowA⟩
  have slA : SlL H2 9 ms (.slice lA 0 ms.length ms.length 9) := .sl (rest := []) (by simpa using rowA) rfl (Nat.le_refl _)
  refine ⟨gA, ?_⟩
  have r2a := (g1.trans gA).at r2
  have r3a := (g1.trans gA).at r3
  refine run_mn (φ := φ0) (pm := pmR 2 [] 0) 0 (nk := [(.atom 0, .flt .f32), (.atom 1, .one), (.atom 2, .flt .f32), (.atom 3, .one), (.atom 4, .one)]) (fs := []) (xs := [.flt .f32 x, S, .flt .f32 x', S', .slice lA 0 ms.length ms.length 9]) (ws := [⟨p, 0, [.nd 0 (.flt .f32), .nd 1 .one], false⟩, ⟨q, 0, [.nd 2 (.flt .f32), .nd 3 .one], false⟩]) (env := [(2, .ptr 0 0), (3, .ptr 1 0), (21, .agg [.nd 0 (.flt .f32), .nd 4 .one]), (22, .agg [.nd 2 (.flt .f32), .nd 3 .one])]) ?_ ?_ tb_ok ap_ok ?_
  · refine midN_in ?_ .nil _ ?_ ?_ ?_
    · exact (.cons rfl ⟨_, rfl, hx⟩ (.cons rfl (slOne hS) (.cons rfl ⟨_, rfl, hx'⟩ (.cons rfl (slOne hS') (.cons rfl rfl .nil)))))
    · exact (.cons (win_row r2a (dlCons (dNd rfl ⟨_, rfl, hx⟩) (dlCons (dNd rfl (slOne hS)) dlNil))) (.cons (win_row r3a (dlCons (dNd rfl ⟨_, rfl, hx'⟩) (dlCons (dNd rfl (slOne hS')) dlNil))) .nil))
    · exact ⟨(fun v hv h => (by simp at hv; subst hv; simp at h)), ⟨(fun v hv => (by cases hv)), trivial⟩⟩
    · exact .nil
  · exact (envPtr (l := p) (o := 0) (by rw [Env.put_some]; simpa using b2) rfl rfl (envPtr (l := q) (o := 0) (by rw [Env.put_some]; simpa using b3) rfl rfl (envCons (by rw [Env.put_some]; simp only [↓reduceIte]; exact (dAgg (dlCons (dNd rfl ⟨_, rfl, hx⟩) (dlCons (dNd rfl rfl) dlNil)))) (envCons (by rw [Env.put_some]; simp only [Nat.reduceEqDiff, ↓reduceIte]; rw [b22]; exact (dAgg (dlCons (dNd rfl ⟨_, rfl, hx'⟩) (dlCons (dNd rfl (slOne hS')) dlNil)))) envNil))))
  refine all1 (by kernel_rfl) ?_
  intro vs ls H3 E3 st hE
  have c2 : E3 2 = .ptr p 0 := env_of st.inn hE 2 (by kernel_rfl)
  have c3 : E3 3 = .ptr q 0 := env_of st.inn hE 3 (by kernel_rfl)
  have c21 : E3 21 = .agg [.flt .f32 x, .slice lA 0 ms.length ms.length 9] := env_of st.inn hE 21 (by kernel_rfl)
  have c22 : E3 22 = .agg [.flt .f32 x', S'] := env_of st.inn hE 22 (by kernel_rfl)
  have g3 : Grew H2 H3 := (st.kept.grew (Nat.le_of_ble_eq_true (by kernel_rfl)))
  clear st hE vs ls b2 b3 b20 b22
  have gH3 : Grew H H3 := ((g0.trans g1).trans gA).trans g3
  refine res_kid (free := false) (d := some 23) (f := 32) (args := [.tmp 22]) (by kernel_rfl) (R := fun r H' => Grew H3 H' ∧ ∃ l, H3.next ≤ l ∧ r = .agg [.flt .f32 x', .slice l 0 ms'.length ms'.length 9] ∧ H'.get l = some (.row ms'.flatten true)) ?_ ?_
  · show ACalls _ _ [E3 22] _ _
    rw [c22]
    exact k_toLandMap H3 x' hx' ms' hr' S' (hS'.grew gH3) hmax'
  rintro z H4 ⟨gB, lB, hlB, rfl, rowB⟩
  have slB : SlL H4 9 ms' (.slice lB 0 ms'.length ms'.length 9) := .sl (rest := []) (by simpa using rowB) rfl (Nat.le_refl _)
  refine ⟨gB, ?_⟩
  have r2b := (g3.trans gB).at r2a
  have r3b := (g3.trans gB).at r3a
  have slA' := slA.grew (g3.trans gB)
  refine run_mn (φ := φ0) (pm := pmR 2 [(.call 31 [.agg [.nd 0 (.flt .f32), .nd 4 .one], .agg [.nd 2 (.flt .f32), .nd 5 .one]], .nd 6 .bool)] 0) 0 (nk := [(.atom 0, .flt .f32), (.atom 1, .one), (.atom 2, .flt .f32), (.atom 3, .one), (.atom 4, .one), (.atom 5, .one), (.atom 6, .bool)]) (fs := []) (xs := [.flt .f32 x, S, .flt .f32 x', S', .slice lA 0 ms.length ms.length 9, .slice lB 0 ms'.length ms'.length 9, (.bool (sameN x x' && sameL ms ms'))]) (ws := [⟨p, 0, [.nd 0 (.flt .f32), .nd 1 .one], false⟩, ⟨q, 0, [.nd 2 (.flt .f32), .nd 3 .one], false⟩]) (env := [(2, .ptr 0 0), (3, .ptr 1 0), (21, .agg [.nd 0 (.flt .f32), .nd 4 .one]), (23, .agg [.nd 2 (.flt .f32), .nd 5 .one])]) ?_ ?_ tb_ok ap_ok ?_
  · refine midN_in ?_ .nil _ ?_ ?_ ?_
    · exact (.cons rfl ⟨_, rfl, hx⟩ (.cons rfl (slOne hS) (.cons rfl ⟨_, rfl, hx'⟩ (.cons rfl (slOne hS') (.cons rfl rfl (.cons rfl rfl (.cons rfl ⟨_, rfl⟩ .nil)))))))
    · exact (.cons (win_row r2b (dlCons (dNd rfl ⟨_, rfl, hx⟩) (dlCons (dNd rfl (slOne hS)) dlNil))) (.cons (win_row r3b (dlCons (dNd rfl ⟨_, rfl, hx'⟩) (dlCons (dNd rfl (slOne hS')) dlNil))) .nil))
    · exact ⟨(fun v hv h => (by simp at hv; subst hv; simp at h)), ⟨(fun v hv => (by cases hv)), trivial⟩⟩
    · exact (.cons (rule_call (args := [.agg [.flt .f32 x, .slice lA 0 ms.length ms.length 9], .agg [.flt .f32 x', .slice lB 0 ms'.length ms'.length 9]]) (dlCons (dAgg (dlCons (dNd rfl ⟨_, rfl, hx⟩) (dlCons (dNd rfl rfl) dlNil))) (dlCons (dAgg (dlCons (dNd rfl ⟨_, rfl, hx'⟩) (dlCons (dNd rfl rfl) dlNil))) dlNil)) (dNd rfl ⟨_, rfl⟩) (fun H9 hk => k_spec_SameMap H9 x x' hx hx' ms ms' hr hr' _ _ (slA'.grew (hk.grew (Nat.le_refl _))) (slB.grew (hk.grew (Nat.le_refl _))) (by omega))) .nil)
  · exact (envPtr (l := p) (o := 0) (by rw [Env.put_some]; simpa using c2) rfl rfl (envPtr (l := q) (o := 0) (by rw [Env.put_some]; simpa using c3) rfl rfl (envCons (by rw [Env.put_some]; simp only [Nat.reduceEqDiff, ↓reduceIte]; rw [c21]; exact (dAgg (dlCons (dNd rfl ⟨_, rfl, hx⟩) (dlCons (dNd rfl rfl) dlNil)))) (envCons (by rw [Env.put_some]; simp only [↓reduceIte]; exact (dAgg (dlCons (dNd rfl ⟨_, rfl, hx'⟩) (dlCons (dNd rfl rfl) dlNil)))) envNil))))
  refine all1 (by kernel_rfl) ?_
  intro vs ls H5 E5 st hE
  have d2 : E5 2 = .ptr p 0 := env_of st.inn hE 2 (by kernel_rfl)
  have d3 : E5 3 = .ptr q 0 := env_of st.inn hE 3 (by kernel_rfl)
  have d6 : E5 6 = .bool (sameN x x' && sameL ms ms') := env_of st.inn hE 6 (by kernel_rfl)
  have d25 : E5 25 = .agg [.flt .f32 x, S] := env_of st.inn hE 25 (by kernel_rfl)
  have g5 : Grew H4 H5 := (st.kept.grew (Nat.le_of_ble_eq_true (by kernel_rfl)))
  clear st hE vs ls c2 c3 c21 c22
  have gH5 : Grew H H5 := (gH3.trans gB).trans g5
  refine res_call (d := some 26) (f := 32) (args := [.tmp 25]) (by kernel_rfl) (R := fun r H' => Grew H5 H' ∧ ∃ l, H5.next ≤ l ∧ r = .agg [.flt .f32 x, .slice l 0 ms.length ms.length 9] ∧ H'.get l = some (.row ms.flatten true)) ?_ ?_
  · show ACalls _ _ [E5 25] _ _
    rw [d25]
    exact k_toLandMap H5 x hx ms hr S (hS.grew gH5) hmax
  rintro z H6 ⟨gC, lC, hlC, rfl, rowC⟩
  have slC : SlL H6 9 ms (.slice lC 0 ms.length ms.length 9) := .sl (rest := []) (by simpa using rowC) rfl (Nat.le_refl _)
  have r2c := (g5.trans gC).at r2b
  have r3c := (g5.trans gC).at r3b
  refine run_mn (φ := φ0) (pm := pmR 2 [] 0) 0 (nk := [(.atom 0, .flt .f32), (.atom 1, .one), (.atom 2, .flt .f32), (.atom 3, .one), (.atom 4, .one), (.atom 5, .bool)]) (fs := []) (xs := [.flt .f32 x, S, .flt .f32 x', S', .slice lC 0 ms.length ms.length 9, (.bool (sameN x x' && sameL ms ms'))]) (ws := [⟨p, 0, [.nd 0 (.flt .f32), .nd 1 .one], false⟩, ⟨q, 0, [.nd 2 (.flt .f32), .nd 3 .one], false⟩]) (env := [(2, .ptr 0 0), (3, .ptr 1 0), (6, .nd 5 .bool), (26, .agg [.nd 0 (.flt .f32), .nd 4 .one])]) ?_ ?_ tb_ok ap_ok ?_
  · refine midN_in ?_ .nil _ ?_ ?_ ?_
    · exact (.cons rfl ⟨_, rfl, hx⟩ (.cons rfl (slOne hS) (.cons rfl ⟨_, rfl, hx'⟩ (.cons rfl (slOne hS') (.cons rfl rfl (.cons rfl ⟨_, rfl⟩ .nil))))))
    · exact (.cons (win_row r2c (dlCons (dNd rfl ⟨_, rfl, hx⟩) (dlCons (dNd rfl (slOne hS)) dlNil))) (.cons (win_row r3c (dlCons (dNd rfl ⟨_, rfl, hx'⟩) (dlCons (dNd rfl (slOne hS')) dlNil))) .nil))
    · exact ⟨(fun v hv h => (by simp at hv; subst hv; simp at h)), ⟨(fun v hv => (by cases hv)), trivial⟩⟩
    · exact .nil
  · exact (envPtr (l := p) (o := 0) (by rw [Env.put_some]; simpa using d2) rfl rfl (envPtr (l := q) (o := 0) (by rw [Env.put_some]; simpa using d3) rfl rfl (envNd (by rw [Env.put_some]; simpa using d6) rfl ⟨_, rfl⟩ (envCons (by rw [Env.put_some]; simp only [↓reduceIte]; exact (dAgg (dlCons (dNd rfl ⟨_, rfl, hx⟩) (dlCons (dNd rfl rfl) dlNil)))) envNil))))
  refine all1 (by kernel_rfl) ?_
  intro vs ls H7 E7 st hE
  have i2 : E7 2 = .ptr p 0 := env_of st.inn hE 2 (by kernel_rfl)
  have i3 : E7 3 = .ptr q 0 := env_of st.inn hE 3 (by kernel_rfl)
  have i6 : E7 6 = .bool (sameN x x' && sameL ms ms') := env_of st.inn hE 6 (by kernel_rfl)
  have i27 : E7 27 = .agg [.flt .f32 x', S'] := env_of st.inn hE 27 (by kernel_rfl)
  obtain ⟨u, i7, r7, _⟩ := ptr_of st.inn hE 7 2 (by kernel_rfl) (ds := [.flt .f32 x, .slice lC 0 ms.length ms.length 9]) (by kernel_rfl)
  have g7 : Grew H6 H7 := (st.kept.grew (Nat.le_of_ble_eq_true (by kernel_rfl)))
  clear st hE vs ls d2 d3 d6 d25
  have gH7 : Grew H H7 := (gH5.trans gC).trans g7
  refine res_call (d := some 28) (f := 32) (args := [.tmp 27]) (by kernel_rfl) (R := fun r H' => Grew H7 H' ∧ ∃ l, H7.next ≤ l ∧ r = .agg [.flt .f32 x', .slice l 0 ms'.length ms'.length 9] ∧ H'.get l = some (.row ms'.flatten true)) ?_ ?_
  · show ACalls _ _ [E7 27] _ _
    rw [i27]
    exact k_toLandMap H7 x' hx' ms' hr' S' (hS'.grew gH7) hmax'
  rintro z H8 ⟨gD, lD, hlD, rfl, rowD⟩
  have slD : SlL H8 9 ms' (.slice lD 0 ms'.length ms'.length 9) := .sl (rest := []) (by simpa using rowD) rfl (Nat.le_refl _)
  have r2d := (g7.trans gD).at r2c
  have r3d := (g7.trans gD).at r3c
  have r7d := gD.at r7
  have slC' := slC.grew (g7.trans gD)
  refine run_mn (φ := φ0) (pm := pmR 3 [(.call 33 [.agg [.nd 0 (.flt .f32), .nd 4 .one], .agg [.nd 2 (.flt .f32), .nd 5 .one]], .nd 6 .bool)] 0) 0 (nk := [(.atom 0, .flt .f32), (.atom 1, .one), (.atom 2, .flt .f32), (.atom 3, .one), (.atom 4, .one), (.atom 5, .one), (.atom 6, .bool)]) (fs := []) (xs := [.flt .f32 x, S, .flt .f32 x', S', .slice lC 0 ms.length ms.length 9, .slice lD 0 ms'.length ms'.length 9, (.bool (sameN x x' && sameL ms ms'))]) (ws := [⟨p, 0, [.nd 0 (.flt .f32), .nd 1 .one], false⟩, ⟨q, 0, [.nd 2 (.flt .f32), .nd 3 .one], false⟩, ⟨u, 0, [.nd 0 (.flt .f32), .nd 4 .one], false⟩]) (env := [(2, .ptr 0 0), (3, .ptr 1 0), (7, .ptr 2 0), (6, .nd 6 .bool), (28, .agg [.nd 2 (.flt .f32), .nd 5 .one])]) ?_ ?_ tb_ok ap_ok ?_
  · refine midN_in ?_ .nil _ ?_ ?_ ?_
    · exact (.cons rfl ⟨_, rfl, hx⟩ (.cons rfl (slOne hS) (.cons rfl ⟨_, rfl, hx'⟩ (.cons rfl (slOne hS') (.cons rfl rfl (.cons rfl rfl (.cons rfl ⟨_, rfl⟩ .nil)))))))
    · exact (.cons (win_row r2d (dlCons (dNd rfl ⟨_, rfl, hx⟩) (dlCons (dNd rfl (slOne hS)) dlNil))) (.cons (win_row r3d (dlCons (dNd rfl ⟨_, rfl, hx'⟩) (dlCons (dNd rfl (slOne hS')) dlNil))) (.cons (win_row r7d (dlCons (dNd rfl ⟨_, rfl, hx⟩) (dlCons (dNd rfl rfl) dlNil))) .nil)))
    · exact ⟨(fun v hv h => (by simp at hv; rcases hv with rfl | rfl <;> simp at h)), ⟨(fun v hv h => (by simp at hv; subst hv; simp at h)), ⟨(fun v hv => (by cases hv)), trivial⟩⟩⟩
    · exact (.cons (rule_call (args := [.agg [.flt .f32 x, .slice lC 0 ms.length ms.length 9], .agg [.flt .f32 x', .slice lD 0 ms'.length ms'.length 9]]) (dlCons (dAgg (dlCons (dNd rfl ⟨_, rfl, hx⟩) (dlCons (dNd rfl rfl) dlNil))) (dlCons (dAgg (dlCons (dNd rfl ⟨_, rfl, hx'⟩) (dlCons (dNd rfl rfl) dlNil))) dlNil)) (dNd rfl ⟨_, rfl⟩) (fun H9 hk => k_impl_SameMap H9 x x' hx hx' ms ms' hr hr' _ _ (slC'.grew (hk.grew (Nat.le_refl _))) (slD.grew (hk.grew (Nat.le_refl _))) (by omega))) .nil)
  · exact (envPtr (l := p) (o := 0) (by rw [Env.put_some]; simpa using i2) rfl rfl (envPtr (l := q) (o := 0) (by rw [Env.put_some]; simpa using i3) rfl rfl (envPtr (l := u) (o := 0) (by rw [Env.put_some]; simpa using i7) rfl rfl (envNd (by rw [Env.put_some]; simpa using i6) rfl ⟨_, rfl⟩ (envCons (by rw [Env.put_some]; simp only [↓reduceIte]; exact (dAgg (dlCons (dNd rfl ⟨_, rfl, hx'⟩) (dlCons (dNd rfl rfl) dlNil)))) envNil)))))
  refine all1 (by kernel_rfl) ?_
  intro vs ls HA EA st hE
  have j3 : EA 3 = .ptr q 0 := env_of st.inn hE 3 (by kernel_rfl)
  have j35 : EA 35 = .agg [.flt .f32 x, .slice lC 0 ms.length ms.length 9] := env_of st.inn hE 35 (by kernel_rfl)
  have j36 : EA 36 = .agg [.flt .f32 x, S] := env_of st.inn hE 36 (by kernel_rfl)
  obtain ⟨y, j8, r8, _⟩ := ptr_of st.inn hE 8 3 (by kernel_rfl) (ds := [.flt .f32 x', .slice lD 0 ms'.length ms'.length 9]) (by kernel_rfl)
  have gAA : Grew H8 HA := (st.kept.grew (Nat.le_of_ble_eq_true (by kernel_rfl)))
  clear st hE vs ls i2 i3 i6 i27 i7
  have gHA : Grew H HA := (gH7.trans gD).trans gAA
  refine res_kid (free := false) (d := some 37) (f := 32) (args := [.tmp 36]) (by kernel_rfl) (R := fun r H' => Grew HA H' ∧ ∃ l, HA.next ≤ l ∧ r = .agg [.flt .f32 x, .slice l 0 ms.length ms.length 9] ∧ H'.get l = some (.row ms.flatten true)) ?_ ?_
  · show ACalls _ _ [EA 36] _ _
    rw [j36]
    exact k_toLandMap HA x hx ms hr S (hS.grew gHA) hmax
  rintro z HB ⟨gE, lE, hlE, rfl, rowE⟩
  have slE : SlL HB 9 ms (.slice lE 0 ms.length ms.length 9) := .sl (rest := []) (by simpa using rowE) rfl (Nat.le_refl _)
  refine ⟨gE, ?_⟩
  have r3e := (gAA.trans gE).at r3d
  have r8e := gE.at r8
  have slC2 := slC'.grew (gAA.trans gE)
  have slD2 := slD.grew (gAA.trans gE)
  refine run_mn (φ := φ0) (pm := pmR 2 [(.call 27 [.agg [.nd 0 (.flt .f32), .nd 4 .one], .agg [.nd 0 (.flt .f32), .nd 6 .one]], .lit (.bool true))] 0) 0 (nk := [(.atom 0, .flt .f32), (.atom 1, .one), (.atom 2, .flt .f32), (.atom 3, .one), (.atom 4, .one), (.atom 5, .one), (.atom 6, .one)]) (fs := []) (xs := [.flt .f32 x, S, .flt .f32 x', S', .slice lC 0 ms.length ms.length 9, .slice lD 0 ms'.length ms'.length 9, .slice lE 0 ms.length ms.length 9]) (ws := [⟨q, 0, [.nd 2 (.flt .f32), .nd 3 .one], false⟩, ⟨y, 0, [.nd 2 (.flt .f32), .nd 5 .one], false⟩]) (env := [(3, .ptr 0 0), (8, .ptr 1 0), (35, .agg [.nd 0 (.flt .f32), .nd 4 .one]), (37, .agg [.nd 0 (.flt .f32), .nd 6 .one])]) ?_ ?_ tb_ok ap_ok ?_
  · refine midN_in ?_ .nil _ ?_ ?_ ?_
    · exact (.cons rfl ⟨_, rfl, hx⟩ (.cons rfl (slOne hS) (.cons rfl ⟨_, rfl, hx'⟩ (.cons rfl (slOne hS') (.cons rfl rfl (.cons rfl rfl (.cons rfl rfl .nil)))))))
    · exact (.cons (win_row r3e (dlCons (dNd rfl ⟨_, rfl, hx'⟩) (dlCons (dNd rfl (slOne hS')) dlNil))) (.cons (win_row r8e (dlCons (dNd rfl ⟨_, rfl, hx'⟩) (dlCons (dNd rfl rfl) dlNil))) .nil))
    · exact ⟨(fun v hv h => (by simp at hv; subst hv; simp at h)), ⟨(fun v hv => (by cases hv)), trivial⟩⟩
    · exact (.cons (rule_call (args := [.agg [.flt .f32 x, .slice lC 0 ms.length ms.length 9], .agg [.flt .f32 x, .slice lE 0 ms.length ms.length 9]]) (dlCons (dAgg (dlCons (dNd rfl ⟨_, rfl, hx⟩) (dlCons (dNd rfl rfl) dlNil))) (dlCons (dAgg (dlCons (dNd rfl ⟨_, rfl, hx⟩) (dlCons (dNd rfl rfl) dlNil))) dlNil)) (dLit rfl) (fun H9 hk => k_eqLandMap H9 x hx ms hr _ _ (slC2.grew (hk.grew (Nat.le_refl _))) (slE.grew (hk.grew (Nat.le_refl _))) (by omega))) .nil)
  · exact (envPtr (l := q) (o := 0) (by rw [Env.put_some]; simpa using j3) rfl rfl (envPtr (l := y) (o := 0) (by rw [Env.put_some]; simpa using j8) rfl rfl (envCons (by rw [Env.put_some]; simp only [Nat.reduceEqDiff, ↓reduceIte]; rw [j35]; exact (dAgg (dlCons (dNd rfl ⟨_, rfl, hx⟩) (dlCons (dNd rfl rfl) dlNil)))) (envCons (by rw [Env.put_some]; simp only [↓reduceIte]; exact (dAgg (dlCons (dNd rfl ⟨_, rfl, hx⟩) (dlCons (dNd rfl rfl) dlNil)))) envNil))))
  refine all1 (by kernel_rfl) ?_
  intro vs ls HC EC st hE
  have k40 : EC 40 = .agg [.flt .f32 x', .slice lD 0 ms'.length ms'.length 9] := env_of st.inn hE 40 (by kernel_rfl)
  have k41 : EC 41 = .agg [.flt .f32 x', S'] := env_of st.inn hE 41 (by kernel_rfl)
  have gCC : Grew HB HC := (st.kept.grew (Nat.le_of_ble_eq_true (by kernel_rfl)))
  clear st hE vs ls j3 j35 j36 j8
  have gHC : Grew H HC := (gHA.trans gE).trans gCC
  refine res_kid (free := false) (d := some 42) (f := 32) (args := [.tmp 41]) (by kernel_rfl) (R := fun r H' => Grew HC H' ∧ ∃ l, HC.next ≤ l ∧ r = .agg [.flt .f32 x', .slice l 0 ms'.length ms'.length 9] ∧ H'.get l = some (.row ms'.flatten true)) ?_ ?_
  · show ACalls _ _ [EC 41] _ _
    rw [k41]
    exact k_toLandMap HC x' hx' ms' hr' S' (hS'.grew gHC) hmax'
  rintro z HD ⟨gF, lF, hlF, rfl, rowF⟩
  have slF : SlL HD 9 ms' (.slice lF 0 ms'.length ms'.length 9) := .sl (rest := []) (by simpa using rowF) rfl (Nat.le_refl _)
  refine ⟨gF, ?_⟩
  have slD3 := slD2.grew (gCC.trans gF)
  refine run_mn (φ := φ0) (pm := pmR 0 [(.call 27 [.agg [.nd 2 (.flt .f32), .nd 4 .one], .agg [.nd 2 (.flt .f32), .nd 5 .one]], .lit (.bool true))] 0) 0 (nk := [(.atom 0, .flt .f32), (.atom 1, .one), (.atom 2, .flt .f32), (.atom 3, .one), (.atom 4, .one), (.atom 5, .one)]) (fs := []) (xs := [.flt .f32 x, S, .flt .f32 x', S', .slice lD 0 ms'.length ms'.length 9, .slice lF 0 ms'.length ms'.length 9]) (ws := []) (env := [(40, .agg [.nd 2 (.flt .f32), .nd 4 .one]), (42, .agg [.nd 2 (.flt .f32), .nd 5 .one])]) ?_ ?_ tb_ok ap_ok ?_
  · refine midN_in ?_ .nil _ ?_ ?_ ?_
    · exact (.cons rfl ⟨_, rfl, hx⟩ (.cons rfl (slOne hS) (.cons rfl ⟨_, rfl, hx'⟩ (.cons rfl (slOne hS') (.cons rfl rfl (.cons rfl rfl .nil))))))
    · exact .nil
    · exact trivial
    · exact (.cons (rule_call (args := [.agg [.flt .f32 x', .slice lD 0 ms'.length ms'.length 9], .agg [.flt .f32 x', .slice lF 0 ms'.length ms'.length 9]]) (dlCons (dAgg (dlCons (dNd rfl ⟨_, rfl, hx'⟩) (dlCons (dNd rfl rfl) dlNil))) (dlCons (dAgg (dlCons (dNd rfl ⟨_, rfl, hx'⟩) (dlCons (dNd rfl rfl) dlNil))) dlNil)) (dLit rfl) (fun H9 hk => k_eqLandMap H9 x' hx' ms' hr' _ _ (slD3.grew (hk.grew (Nat.le_refl _))) (slF.grew (hk.grew (Nat.le_refl _))) (by omega))) .nil)
  · exact (envCons (by rw [Env.put_some]; simp only [Nat.reduceEqDiff, ↓reduceIte]; rw [k40]; exact (dAgg (dlCons (dNd rfl ⟨_, rfl, hx'⟩) (dlCons (dNd rfl rfl) dlNil)))) (envCons (by rw [Env.put_some]; simp only [↓reduceIte]; exact (dAgg (dlCons (dNd rfl ⟨_, rfl, hx'⟩) (dlCons (dNd rfl rfl) dlNil)))) envNil))
  refine all1 (by kernel_rfl) ?_
  intro vs ls HE EE st hE
  have h7 : H.next ≤ HE.next := Nat.le_trans (gHC.trans gF).next st.kept.1
  exact res_ex (by kernel_rfl) (end_same st.inn hE (.inr rfl) (a := .bool true) (by kernel_rfl) h7 rfl)
end Go.Proofs.Ytgjhjemmddojfaa
