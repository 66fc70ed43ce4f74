/- Contracts: maps that are the same, by the reference. -/
import Derived.Test.YtgjhjemmddojfaaSame
set_option linter.unusedVariables false
set_option linter.unusedSimpArgs false
namespace Go.Proofs.Ytgjhjemmddojfaa
open Go.Ab
set_option maxRecDepth 100000
attribute [local irreducible] Res
theorem k_l05Same (H : AHeap) (l l' : Nat) (x x' : Option Nat) (hx : fOk .f32 x) (hx' : fOk .f32 x') (wr wr' : Bool) (ms ms' : List (List AV)) (hr : Recs KM ms) (hr' : Recs KM ms') (S S' : AV) (hS : SlL H 9 ms S) (hS' : SlL H 9 ms' S') (hg : H.get l = some (.row [.flt .f32 x, S] wr)) (hg' : H.get l' = some (.row [.flt .f32 x', S'] wr')) (hmax : ms.length < 2 ^ 40) : APure Try.prog 68 [.ptr l 0, .ptr l' 0] H (.bool (sameN x x' && sameL ms ms')) := by
  refine res_start h_spec_l05Same (by simp) ?_
  refine run_mn (φ := φ0) (pm := pmR 2 [(.len (.nd 0 .one), .nd 2 (.int .i64)), (.len (.nd 1 .one), .nd 3 (.int .i64)), (.call 94 [.nd 4 (.flt .f32), .nd 5 (.flt .f32)], .nd 6 .bool)] 0) 20 (nk := [(.atom 0, .one), (.atom 1, .one), (.atom 2, .int .i64), (.atom 3, .int .i64), (.atom 4, .flt .f32), (.atom 5, .flt .f32), (.atom 6, .bool)]) (fs := []) (xs := [S, S', .int .i64 (ms.length : Int), .int .i64 (ms'.length : Int), .flt .f32 x, .flt .f32 x', .bool (sameN x x')]) (ws := [⟨l, 0, [.nd 4 (.flt .f32), .nd 0 .one], false⟩, ⟨l', 0, [.nd 5 (.flt .f32), .nd 1 .one], false⟩]) (env := [(0, .ptr 0 0), (1, .ptr 1 0)]) ?_ ?_ tb_ok ap_ok ?_
  · refine midN_in ?_ .nil _ ?_ ?_ ?_
    · exact .cons rfl (slOne hS) (.cons rfl (slOne hS') (.cons rfl ⟨_, rfl⟩ (.cons rfl ⟨_, rfl⟩ (.cons rfl ⟨_, rfl, hx⟩ (.cons rfl ⟨_, rfl, hx'⟩ (.cons rfl ⟨_, rfl⟩ .nil))))))
    · exact .cons (win_row hg (dlCons (dNd rfl ⟨_, rfl, hx⟩) (dlCons (dNd rfl (slOne hS)) dlNil))) (.cons (win_row hg' (dlCons (dNd rfl ⟨_, rfl, hx'⟩) (dlCons (dNd rfl (slOne hS')) dlNil))) .nil)
    · exact ⟨fun v hv h => (by simp at hv; subst hv; simp at h), ⟨fun v hv => (by cases hv), trivial⟩⟩
    · exact .cons ⟨_, _, dNd rfl (slOne hS), dNd rfl ⟨_, rfl⟩, slLen hS⟩ (.cons ⟨_, _, dNd rfl (slOne hS'), dNd rfl ⟨_, rfl⟩, slLen hS'⟩ (.cons (rule_call (args := [.flt .f32 x, .flt .f32 x']) (dlCons (dNd rfl ⟨_, rfl, hx⟩) (dlCons (dNd rfl ⟨_, rfl, hx'⟩) dlNil)) (dNd rfl ⟨_, rfl⟩) (fun H3 _ => k_l01Same x x' hx hx' H3)) .nil))
  · exact envPtr (l := l) (o := 0) rfl rfl rfl (envPtr (l := l') (o := 0) rfl rfl rfl envNil)
  refine all3 (by kernel_rfl) ?_ ?_ ?_
  · intro vs ls H1 E1 st hE
    have f0 : sameN x x' = false := bfact st.inn 0 (by kernel_rfl)
    refine res_ex (by kernel_rfl) (end_flat st.inn hE (.inr rfl) (a := .bool false) (by kernel_rfl) (st.kept.grew (Nat.le_of_ble_eq_true (by kernel_rfl))) rfl ⟨?_, rfl⟩)
    rw [f0, Bool.false_and]
  · intro vs ls H1 E1 st hE
    have f0 : decide ((ms.length : Int) = (ms'.length : Int)) = false := bfact st.inn 0 (by kernel_rfl)
    refine res_ex (by kernel_rfl) (end_flat st.inn hE (.inr rfl) (a := .bool false) (by kernel_rfl) (st.kept.grew (Nat.le_of_ble_eq_true (by kernel_rfl))) rfl ⟨?_, rfl⟩)
    have : ¬ ms.length = ms'.length := by have := of_decide_eq_false f0; omega
    simp [sameL, this]
  intro vs ls H1 E1 st hE
  have f0 : decide ((ms.length : Int) = (ms'.length : Int)) = true := bfact st.inn 0 (by kernel_rfl)
  have fN : sameN x x' = true := bfact st.inn 1 (by kernel_rfl)
  have hlen : ms.length = ms'.length := by have := of_decide_eq_true f0; omega
  have a0 : E1 0 = .ptr l 0 := env_of st.inn hE 0 (by kernel_rfl)
  have a1 : E1 1 = .ptr l' 0 := env_of st.inn hE 1 (by kernel_rfl)
  have a5 : E1 5 = .int .i64 ((0 : Nat) : Int) := env_of st.inn hE 5 (by kernel_rfl)
  have g1 : Grew H H1 := (st.kept.grew (Nat.le_of_ble_eq_true (by kernel_rfl)))
  clear st hE vs ls
  refine res_scan (by kernel_rfl) [(0, .ptr l 0), (1, .ptr l' 0)] 5 ms.length (fun i => ∀ j, j < i → sameM (ms.getD j []) (ms'.getD j []) = true) (.cons a0 (.cons a1 .nil)) a5 g1 (fun j hj => by omega) ?_
  intro i hi hI E2 H2 hs h5 hg2
  have b0 := hs.head
  have b1 := hs.tail.head
  have hg2a := hg2.at hg
  have hg2b := hg2.at hg'
  have hso := slOne hS
  rcases Nat.lt_or_ge i ms.length with hlt | hge
  · have hlt' : i < ms'.length := by omega
    cases hS with
    | nil h => rw [h] at hlt; simp at hlt
    | @sl ls0 n cap rest wr2 hgS hn hc =>
      cases hS' with
      | nil h => rw [h] at hlt'; simp at hlt'
      | @sl ls1 n' cap' rest' wr2' hgS' hn' hc' =>
        have hgS2 := hg2.at hgS
        have hgS2' := hg2.at hgS'
        subst hn
        subst hn'
        have hD : ms.getD i [] = ms[i] := by simp [List.getD_eq_getElem?_getD, hlt]
        have hD' : ms'.getD i [] = ms'[i] := by simp [List.getD_eq_getElem?_getD, hlt']
        have hkm := hr.get hlt
        have hkm' := hr'.get hlt'
        obtain ⟨v0, v1, v2, v3, v4, v5, v6, v7, v8, hm, o3, o4, o5, o6⟩ := partsMark hkm
        obtain ⟨w0, w1, w2, w3, w4, w5, w6, w7, w8, hm', p3, p4, p5, p6⟩ := partsMark hkm'
        refine run_mn (φ := φ0) (pm := pmR 4 [(.len (.nd 0 .one), .nd 1 (.int .i64)), (.ia 9 (.nd 0 .one) (.nd 2 (.int .i64)), .ptr 0 0), (.ia 9 (.nd 3 .one) (.nd 2 (.int .i64)), .ptr 1 0), (.call 102 [.ptr 0 0, .ptr 1 0], .nd 22 .bool)] 0) 20
          (nk := [(.atom 0, .one), (.atom 1, .int .i64), (.atom 2, .int .i64), (.atom 3, .one)] ++ ([(.atom 4, .int .i32), (.atom 5, .int .i32), (.atom 6, .int .i32), (.atom 7, .flt .f32), (.atom 8, .flt .f32), (.atom 9, .flt .f32), (.atom 10, .flt .f32), (.atom 11, .int .i64), (.atom 12, .int .i64)] ++ ([(.atom 13, .int .i32), (.atom 14, .int .i32), (.atom 15, .int .i32), (.atom 16, .flt .f32), (.atom 17, .flt .f32), (.atom 18, .flt .f32), (.atom 19, .flt .f32), (.atom 20, .int .i64), (.atom 21, .int .i64)] ++ [(.atom 22, .bool), (.atom 23, .flt .f32), (.atom 24, .flt .f32), (.bin .lss (.nd 2 (.int .i64)) (.nd 1 (.int .i64)), .bool)]))) (fs := [(25, true)])
          (xs := [.slice ls0 0 ms.length cap 9, .int .i64 (ms.length : Int), .int .i64 (i : Int), .slice ls1 0 ms'.length cap' 9, .int .i32 v0, .int .i32 v1, .int .i32 v2, .flt .f32 v3, .flt .f32 v4, .flt .f32 v5, .flt .f32 v6, .int .i64 v7, .int .i64 v8, .int .i32 w0, .int .i32 w1, .int .i32 w2, .flt .f32 w3, .flt .f32 w4, .flt .f32 w5, .flt .f32 w6, .int .i64 w7, .int .i64 w8, .bool (sameM ms[i] ms'[i]), .flt .f32 x, .flt .f32 x', .bool true])
          (ws := [⟨ls0, i * 9, nds 4 KM, false⟩, ⟨ls1, i * 9, nds 13 KM, false⟩, ⟨l, 0, [.nd 23 (.flt .f32), .nd 0 .one], false⟩, ⟨l', 0, [.nd 24 (.flt .f32), .nd 3 .one], false⟩]) (env := [(0, .ptr 2 0), (1, .ptr 3 0), (5, .nd 2 (.int .i64))]) ?_ ?_ tb_ok ap_ok ?_
        · refine midN_in ?_ ?_ _ ?_ ?_ ?_
          · refine .cons rfl rfl (.cons rfl ⟨_, rfl⟩ (.cons rfl ⟨_, rfl⟩ (.cons rfl rfl ?_)))
            (repeat (first | exact .nil | refine .cons rfl ⟨_, rfl⟩ ?_ | refine .cons rfl ⟨_, rfl, by assumption⟩ ?_ | refine .cons rfl (by assumption) ?_))
            refine .cons ⟨_, _, dNd rfl ⟨_, rfl⟩, dNd rfl ⟨_, rfl⟩, ?_⟩ ⟨_, rfl⟩ .nil
            show some (AV.bool (decide ((i : Int) < (ms.length : Int)))) = _
            rw [decide_eq_true (by omega)]
          · exact .cons rfl .nil
          · exact .cons (win_elem hr hgS2 hlt rfl (by rw [hm]; exact (by repeat (first | exact dlNil | refine dlCons (dNd rfl ⟨_, rfl⟩) ?_ | refine dlCons (dNd rfl ⟨_, rfl, by assumption⟩) ?_ | refine dlCons (dNd rfl (by assumption)) ?_)))) (.cons (win_elem hr' hgS2' hlt' rfl (by rw [hm']; exact (by repeat (first | exact dlNil | refine dlCons (dNd rfl ⟨_, rfl⟩) ?_ | refine dlCons (dNd rfl ⟨_, rfl, by assumption⟩) ?_ | refine dlCons (dNd rfl (by assumption)) ?_)))) (.cons (win_row hg2a (dlCons (dNd rfl ⟨_, rfl, hx⟩) (dlCons (dNd rfl rfl) dlNil))) (.cons (win_row hg2b (dlCons (dNd rfl ⟨_, rfl, hx'⟩) (dlCons (dNd rfl rfl) dlNil))) .nil)))
          · exact ⟨fun v hv h => (by simp at hv; rcases hv with rfl | rfl | rfl <;> simp at h), ⟨fun v hv h => (by simp at hv; rcases hv with rfl | rfl <;> simp at h), ⟨fun v hv h => (by simp at hv; subst hv; simp at h), ⟨fun v hv => (by cases hv), trivial⟩⟩⟩⟩
          · obtain ⟨pre, post, q1, q2⟩ := flat_split hr.len hlt rest
            obtain ⟨pre', post', q3, q4⟩ := flat_split hr'.len hlt' rest'
            exact .cons (rule_len (o := 0) (dNd rfl rfl) (dNd rfl ⟨_, rfl⟩)) (.cons (rule_ia (k := i) (dNd rfl rfl) (dNd rfl ⟨_, rfl⟩) (by omega) rfl) (.cons (rule_ia (k := i) (dNd rfl rfl) (dNd rfl ⟨_, rfl⟩) (by omega) rfl)
              (.cons (rule_call (args := [.ptr ls0 (i * 9), .ptr ls1 (i * 9)]) (dlCons (dPtr (l := ls0) (o := i * 9) rfl) (dlCons (dPtr (l := ls1) (o := i * 9) rfl) dlNil)) (dNd rfl ⟨_, rfl⟩) (fun H3 hk => k_l05SameMark ms[i] ms'[i] hkm hkm' (by rw [(hk.grew (Nat.le_refl _)).at hgS2, q1]) q2 (by rw [(hk.grew (Nat.le_refl _)).at hgS2', q3]) q4)) .nil)))
        · exact envPtr (l := l) (o := 0) b0 rfl rfl (envPtr (l := l') (o := 0) b1 rfl rfl (envNd h5 rfl ⟨_, rfl⟩ envNil))
        · refine all2 (by kernel_rfl) ?_ ?_
          · intro vs ls H4 E4 st hE
            have f1 : sameM ms[i] ms'[i] = false := bfact st.inn 0 (by kernel_rfl)
            refine res_ret (by kernel_rfl) (end_flat st.inn hE (.inr rfl) (a := .bool false) (by kernel_rfl) (hg2.trans (st.kept.grew (Nat.le_of_ble_eq_true (by kernel_rfl)))) rfl ⟨?_, rfl⟩)
            rw [sameL_at hlt (by rw [hD, hD', f1]), Bool.and_false]
          · intro vs ls H4 E4 st hE
            have f1 : sameM ms[i] ms'[i] = true := bfact st.inn 0 (by kernel_rfl)
            refine res_next (sl := [(0, .ptr l 0), (1, .ptr l' 0)]) (ti := 5) (i := i) (Inv := fun i => ∀ j, j < i → sameM (ms.getD j []) (ms'.getD j []) = true) (by kernel_rfl) st.inn hE hlt (by kernel_rfl) (w := IntKind.i64.wrap ((i : Int) + 1)) (by kernel_rfl) (wrap64 (by omega)) (hg2.trans (st.kept.grew (Nat.le_of_ble_eq_true (by kernel_rfl)))) ?_
            intro j hj
            rcases Nat.lt_or_ge j i with h | h
            · exact hI j h
            · obtain rfl : j = i := by omega
              rw [hD, hD', f1]
  · obtain rfl : i = ms.length := by omega
    refine run_mn (φ := φ0) (pm := pmR 1 [(.len (.nd 2 .one), .nd 0 (.int .i64))] 0) 20 (nk := [(.atom 0, .int .i64), (.atom 1, .int .i64), (.atom 2, .one), (.atom 3, .flt .f32), (.bin .lss (.nd 1 (.int .i64)) (.nd 0 (.int .i64)), .bool)]) (fs := [(4, false)])
      (xs := [.int .i64 (ms.length : Int), .int .i64 (ms.length : Int), S, .flt .f32 x, .bool false]) (ws := [⟨l, 0, [.nd 3 (.flt .f32), .nd 2 .one], false⟩]) (env := [(0, .ptr 0 0), (5, .nd 1 (.int .i64))]) ?_ ?_ tb_ok ap_ok ?_
    · refine midN_in ?_ ?_ _ ?_ ?_ ?_
      · refine .cons rfl ⟨_, rfl⟩ (.cons rfl ⟨_, rfl⟩ (.cons rfl hso (.cons rfl ⟨_, rfl, hx⟩ (.cons ⟨_, _, dNd rfl ⟨_, rfl⟩, dNd rfl ⟨_, rfl⟩, ?_⟩ ⟨_, rfl⟩ .nil))))
        show some (AV.bool (decide ((ms.length : Int) < (ms.length : Int)))) = _
        rw [decide_eq_false (by omega)]
      · exact .cons rfl .nil
      · exact .cons (win_row hg2a (dlCons (dNd rfl ⟨_, rfl, hx⟩) (dlCons (dNd rfl hso) dlNil))) .nil
      · exact ⟨fun v hv => (by cases hv), trivial⟩
      · exact .cons ⟨_, _, dNd rfl hso, dNd rfl ⟨_, rfl⟩, slLen hS⟩ .nil
    · exact envPtr (l := l) (o := 0) b0 rfl rfl (envNd h5 rfl ⟨_, rfl⟩ envNil)
    · refine all1 (by kernel_rfl) ?_
      intro vs ls H4 E4 st hE
      have g5 : Grew H2 H4 := (st.kept.grew (Nat.le_of_ble_eq_true (by kernel_rfl)))
      clear st hE vs ls
      refine res_exit (id := 0) (by kernel_rfl) ?_
      refine run_mn (φ := φ0) (pm := pmR 0 [] 0) 20 (nk := []) (fs := []) (xs := []) (ws := []) (env := []) (midN_in .nil .nil _ .nil trivial .nil) envNil tb_ok ap_ok ?_
      refine all1 (by kernel_rfl) ?_
      intro vs ls H5 E5 st hE
      refine res_ex (by kernel_rfl) (end_flat st.inn hE (.inr rfl) (a := .bool true) (by kernel_rfl) ((hg2.trans g5).trans (st.kept.grew (Nat.le_of_ble_eq_true (by kernel_rfl)))) rfl ⟨?_, rfl⟩)
      rw [sameL_true hlen hI, fN]; rfl
theorem k_impl_SameMap (H : AHeap) (x x' : Option Nat) (hx : fOk .f32 x) (hx' : fOk .f32 x') (ms ms' : List (List AV)) (hr : Recs KM ms) (hr' : Recs KM ms') (S S' : AV) (hS : SlL H 9 ms S) (hS' : SlL H 9 ms' S') (hmax : ms.length < 2 ^ 40) : APure Try.prog 33 [.agg [.flt .f32 x, S], .agg [.flt .f32 x', S']] H (.bool (sameN x x' && sameL ms ms')) := by
  refine res_start h_impl_SameMap (by simp) ?_
  refine run_mn (φ := φ0) (pm := pmR 0 [(.call 58 [.nd 2 (.flt .f32), .nd 3 (.flt .f32)], .nd 4 .bool), (.call 70 [.nd 0 .one, .nd 1 .one, .fn 71 [] []], .nd 5 .bool)] 0) 20 (nk := [(.atom 0, .one), (.atom 1, .one), (.atom 2, .flt .f32), (.atom 3, .flt .f32), (.atom 4, .bool), (.atom 5, .bool)]) (fs := []) (xs := [S, S', .flt .f32 x, .flt .f32 x', .bool (sameN x x'), .bool (sameL ms ms')]) (ws := []) (env := [(0, .agg [.nd 2 (.flt .f32), .nd 0 .one]), (1, .agg [.nd 3 (.flt .f32), .nd 1 .one])]) ?_ ?_ tb_ok ap_ok ?_
  · refine midN_in ?_ .nil _ .nil trivial ?_
    · exact .cons rfl (slOne hS) (.cons rfl (slOne hS') (.cons rfl ⟨_, rfl, hx⟩ (.cons rfl ⟨_, rfl, hx'⟩ (.cons rfl ⟨_, rfl⟩ (.cons rfl ⟨_, rfl⟩ .nil)))))
    · exact .cons (rule_call (args := [.flt .f32 x, .flt .f32 x']) (dlCons (dNd rfl ⟨_, rfl, hx⟩) (dlCons (dNd rfl ⟨_, rfl, hx'⟩) dlNil)) (dNd rfl ⟨_, rfl⟩) (fun H3 _ => k_SameNumber x x' hx hx' H3))
        (.cons (rule_call (args := [S, S', .func 71 [] []]) (dlCons (dNd rfl (slOne hS)) (dlCons (dNd rfl (slOne hS')) (dlCons dFn dlNil))) (dNd rfl ⟨_, rfl⟩) (fun H3 hk => k_EqualFuncM H3 ms ms' hr hr' S S' (hS.grew (hk.grew (Nat.le_refl _))) (hS'.grew (hk.grew (Nat.le_refl _))) hmax)) .nil)
  · exact envCons (dAgg (dlCons (dNd rfl ⟨_, rfl, hx⟩) (dlCons (dNd rfl (slOne hS)) dlNil))) (envCons (dAgg (dlCons (dNd rfl ⟨_, rfl, hx'⟩) (dlCons (dNd rfl (slOne hS')) dlNil))) envNil)
  refine all2 (by kernel_rfl) ?_ ?_
  · intro vs ls H1 E1 st hE
    have f0 : sameN x x' = true := bfact st.inn 0 (by kernel_rfl)
    refine res_ex (by kernel_rfl) (end_flat st.inn hE (.inr rfl) (a := .bool (sameL ms ms')) (by kernel_rfl) (st.kept.grew (Nat.le_of_ble_eq_true (by kernel_rfl))) rfl ⟨?_, rfl⟩)
    rw [f0, Bool.true_and]
  · intro vs ls H1 E1 st hE
    have f0 : sameN x x' = false := bfact st.inn 0 (by kernel_rfl)
    refine res_ex (by kernel_rfl) (end_flat st.inn hE (.inr rfl) (a := .bool false) (by kernel_rfl) (st.kept.grew (Nat.le_of_ble_eq_true (by kernel_rfl))) rfl ⟨?_, rfl⟩)
    rw [f0, Bool.false_and]
end Go.Proofs.Ytgjhjemmddojfaa
