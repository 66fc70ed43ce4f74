/- Contracts: chains of poses, by both. -/
import Derived.Test.YtcmoeocemmeofaaTReck
import Derived.Test.YtcmoeocemmeofaaTAddLinkC
set_option linter.unusedVariables false
set_option linter.unusedSimpArgs false
namespace Go.Proofs.Ytcmoeocemmeofaa
open Go.Ab
set_option maxRecDepth 100000
set_option maxHeartbeats 1000000
attribute [local irreducible] Res
def chainL (ms : List (List AV)) (w : Option Nat) (i : Nat) : List AV := [.int .i64 (i : Int), .int .i64 ((i : Int) + 1)] ++ ms.getD i [] ++ [.flt .f32 w]
def chainK (ms : List (List AV)) (w : Option Nat) (k : Nat) : List (List AV) := (List.range k).map (chainL ms w)
theorem chainK_succ (ms : List (List AV)) (w : Option Nat) (k : Nat) : chainK ms w (k + 1) = chainK ms w k ++ [chainL ms w k] := by
  unfold chainK; rw [List.range_succ, List.map_append]; rfl
theorem chainK_len (ms : List (List AV)) (w : Option Nat) (k : Nat) : (chainK ms w k).length = k := by simp [chainK]
theorem chainK_recs {ms : List (List AV)} (hr : Recs KP ms) {w : Option Nat} (hw : fOk .f32 w) {k : Nat} (hk : k ≤ ms.length) : Recs KL (chainK ms w k) := by
  intro m hm
  obtain ⟨i, hi, rfl⟩ := List.mem_map.1 hm
  have hi : i < ms.length := Nat.lt_of_lt_of_le (List.mem_range.1 hi) hk
  have h1 := hr.get hi
  obtain ⟨x, y, z, e, ox, oy, oz⟩ := partsPose h1
  have e2 : ms.getD i [] = ms[i] := by simp [List.getD_eq_getElem?_getD, hi]
  unfold chainL
  rw [e2, e]
  exact .cons ⟨_, rfl⟩ (.cons ⟨_, rfl⟩ (.cons ⟨_, rfl, ox⟩ (.cons ⟨_, rfl, oy⟩ (.cons ⟨_, rfl, oz⟩ (.cons ⟨_, rfl, hw⟩ .nil)))))
noncomputable def chainF (st : List AV) (ms : List (List AV)) (w : Option Nat) : List (List AV) × List (List AV) × Int :=
  if sideB w = true then (if (reckF st ms).2 = 0 then ((reckF st ms).1, chainK ms w ms.length, 0) else ([], [], (reckF st ms).2)) else ([], [], 2)
theorem k_impl_ChainGraph (H : AHeap) (s0 s1 s2 : Option Nat) (o0 : fOk .f32 s0) (o1 : fOk .f32 s1) (o2 : fOk .f32 s2) (ms : List (List AV)) (hr : Recs KP ms) (S : AV) (hS : SlL H 3 ms S) (hmx : ms.length < 2 ^ 40) (wt : Option Nat) (hw : fOk .f32 wt) : ACalls Try.prog 37 [.agg [.flt .f32 s0, .flt .f32 s1, .flt .f32 s2], S, .flt .f32 wt] H fun r H' => Grew H H' ∧ ∃ S' Sk', r = .tuple [.agg [S', Sk'], .int .i64 (chainF [.flt .f32 s0, .flt .f32 s1, .flt .f32 s2] ms wt).2.2] ∧ SlW H' 3 (chainF [.flt .f32 s0, .flt .f32 s1, .flt .f32 s2] ms wt).1 S' ∧ FreshS H.next S' ∧ SlW H' 6 (chainF [.flt .f32 s0, .flt .f32 s1, .flt .f32 s2] ms wt).2.1 Sk' ∧ FreshS H.next Sk' ∧ ApartS S' Sk' := by
  refine res_start h_impl_ChainGraph (by simp) ?_
  refine run_mn (φ := φ0) (pm := pmR 0 [(.call 73 [.nd 4 (.flt .f32)], .nd 5 .bool)] 0) 20 (nk := [(.atom 0, .one), (.atom 1, .flt .f32), (.atom 2, .flt .f32), (.atom 3, .flt .f32), (.atom 4, .flt .f32), (.atom 5, .bool)]) (fs := []) (xs := [S, .flt .f32 s0, .flt .f32 s1, .flt .f32 s2, .flt .f32 wt, .bool (sideB wt)]) (ws := []) (env := [(0, .agg [.nd 1 (.flt .f32), .nd 2 (.flt .f32), .nd 3 (.flt .f32)]), (1, .nd 0 .one), (2, .nd 4 (.flt .f32))]) ?_ ?_ tb_ok ap_ok ?_
  · refine midN_in ?_ .nil _ ?_ ?_ ?_
    · exact (.cons rfl (slOne hS) (.cons rfl ⟨_, rfl, o0⟩ (.cons rfl ⟨_, rfl, o1⟩ (.cons rfl ⟨_, rfl, o2⟩ (.cons rfl ⟨_, rfl, hw⟩ (.cons rfl ⟨_, rfl⟩ .nil))))))
    · exact .nil
    · exact sepOk_ro rfl
    · exact (.cons (rule_call (args := [.flt .f32 wt]) (dlCons (dNd rfl ⟨_, rfl, hw⟩) dlNil) (dNd rfl ⟨_, rfl⟩) (fun H9 hk => k_isSide wt hw H9)) .nil)
  · exact (envEq rfl (dAgg (dlCons (dNd rfl ⟨_, rfl, o0⟩) (dlCons (dNd rfl ⟨_, rfl, o1⟩) (dlCons (dNd rfl ⟨_, rfl, o2⟩) dlNil)))) (envEq rfl (dNd rfl (slOne hS)) (envEq rfl (dNd rfl ⟨_, rfl, hw⟩) envNil)))
  refine all2 (by kernel_rfl) ?_ ?_
  ·
    intro vs ls H1 E1 st hE
    have f2 : (sideB wt) = false := bfact st.inn 0 (by kernel_rfl)
    have gz : Grew H H1 := (Grew.trans (Grew.refl _) (st.kept.grew (Nat.le_of_ble_eq_true (by kernel_rfl))))
    have hc : chainF [.flt .f32 s0, .flt .f32 s1, .flt .f32 s2] ms wt = ([], [], 2) := by
      unfold chainF
      rw [if_neg (by rw [f2]; decide)]
    exact res_ex (by kernel_rfl) (end_same st.inn hE (.inr rfl) (a := .tuple [.agg [.nilslice, .nilslice], .int .i64 2]) (by kernel_rfl) gz.next (by rw [hc]; exact ⟨gz, _, _, rfl, (.nil rfl), FreshS.nil, (.nil rfl), FreshS.nil, ApartS.nil⟩))
  ·
    intro vs ls H3 E3 st hE
    have f4 : (sideB wt) = true := bfact st.inn 0 (by kernel_rfl)
    obtain ⟨p5, e6, r7, n8⟩ := ptr_of st.inn hE 6 1 (by kernel_rfl) (ds := [.nilslice, .nilslice]) (by kernel_rfl)
    have op5 : H.next ≤ p5 := Nat.le_trans (Nat.le_refl _) (n8 (Nat.le_of_ble_eq_true rfl))
    have b9 : E3 18 = .agg [.flt .f32 s0, .flt .f32 s1, .flt .f32 s2] := env_of st.inn hE 18 (by kernel_rfl)
    have b10 : E3 19 = S := env_of st.inn hE 19 (by kernel_rfl)
    have b11 : E3 1 = S := env_of st.inn hE 1 (by kernel_rfl)
    have b12 : E3 2 = .flt .f32 wt := env_of st.inn hE 2 (by kernel_rfl)
    have g13 : Grew H H3 := (st.kept.grew (Nat.le_of_ble_eq_true (by kernel_rfl)))
    have g14 : Grew H H3 := Grew.trans (Grew.refl _) g13
    clear st hE vs ls
    refine res_call (d := (some 20)) (f := 22) (args := [.tmp 18, .tmp 19]) (by kernel_rfl) (R := fun z H' => Grew H3 H' ∧ ∃ S', z = .tuple [S', .int .i64 (reckF [.flt .f32 s0, .flt .f32 s1, .flt .f32 s2] ms).2] ∧ SlW H' 3 (reckF [.flt .f32 s0, .flt .f32 s1, .flt .f32 s2] ms).1 S' ∧ FreshS H3.next S') ?_ ?_
    · show ACalls _ _ [E3 18, E3 19] _ _
      rw [b9, b10]
      exact k_impl_ReckonPoses H3 s0 s1 s2 o0 o1 o2 ms hr S (hS.grew g14) hmx
    rintro z H15 ⟨gH15, S16, rfl, sS16, fS16⟩
    have ne17 : ApartL (S16) p5 := fS16.apartL (H3.lt_of_get r7)
    have fr18 : FreshS H.next (S16) := fS16.mono g14.next
    have g19 : Grew H H15 := Grew.trans g14 gH15
    have r20 := gH15.at r7
    refine run_mn (φ := φ0) (pm := pmR 0 [(.len (.nd 0 .one), .nd 8 (.int .i64))] 0) 20 (nk := [(.atom 0, .one), (.atom 1, .flt .f32), (.atom 2, .flt .f32), (.atom 3, .flt .f32), (.atom 4, .flt .f32), (.atom 5, .bool), (.atom 6, .one), (.atom 7, .int .i64), (.atom 8, .int .i64)]) (fs := []) (xs := [S, .flt .f32 s0, .flt .f32 s1, .flt .f32 s2, .flt .f32 wt, .bool (sideB wt), S16, .int .i64 (reckF [.flt .f32 s0, .flt .f32 s1, .flt .f32 s2] ms).2, .int .i64 (ms.length : Int)]) (ws := [⟨p5, 0, [.lit .nilslice, .lit .nilslice], true⟩]) (env := [(18, .agg [.nd 1 (.flt .f32), .nd 2 (.flt .f32), .nd 3 (.flt .f32)]), (19, .nd 0 .one), (6, .ptr 0 0), (1, .nd 0 .one), (2, .nd 4 (.flt .f32)), (20, .tup [.nd 6 .one, .nd 7 (.int .i64)])]) ?_ ?_ tb_ok ap_ok ?_
    · refine midN_in ?_ .nil _ ?_ ?_ ?_
      · exact (.cons rfl (slOne hS) (.cons rfl ⟨_, rfl, o0⟩ (.cons rfl ⟨_, rfl, o1⟩ (.cons rfl ⟨_, rfl, o2⟩ (.cons rfl ⟨_, rfl, hw⟩ (.cons rfl ⟨_, rfl⟩ (.cons rfl sS16.one (.cons rfl ⟨_, rfl⟩ (.cons rfl ⟨_, rfl⟩ .nil)))))))))
      · exact (.cons (win_own r20 (dlCons (dLit rfl) (dlCons (dLit rfl) dlNil))) .nil)
      · exact ⟨(fun v hv => (by cases hv)), trivial⟩
      · exact (.cons (⟨_, _, (dNd rfl (slOne hS)), (dNd rfl ⟨_, rfl⟩), slLen hS⟩) .nil)
    · exact (envEq (put_ne rfl b9) (dAgg (dlCons (dNd rfl ⟨_, rfl, o0⟩) (dlCons (dNd rfl ⟨_, rfl, o1⟩) (dlCons (dNd rfl ⟨_, rfl, o2⟩) dlNil)))) (envEq (put_ne rfl b10) (dNd rfl (slOne hS)) (envEq (put_ne rfl e6) (dPtr (l := p5) (o := 0) rfl) (envEq (put_ne rfl b11) (dNd rfl (slOne hS)) (envEq (put_ne rfl b12) (dNd rfl ⟨_, rfl, hw⟩) (envEq put_same (dTup' (dlCons (dNd rfl sS16.one) (dlCons (dNd rfl ⟨_, rfl⟩) dlNil))) envNil))))))
    refine all2 (by kernel_rfl) ?_ ?_
    ·
      intro vs ls H21 E21 st hE
      have f22 : ¬ ((reckF [.flt .f32 s0, .flt .f32 s1, .flt .f32 s2] ms).2 = 0) := of_decide_eq_false (bfact (x := decide ((reckF [.flt .f32 s0, .flt .f32 s1, .flt .f32 s2] ms).2 = 0)) st.inn 0 (by kernel_rfl))
      have gz : Grew H H21 := (grew_own g19 (st.inn.kept) ⟨op5, trivial⟩)
      have hc : chainF [.flt .f32 s0, .flt .f32 s1, .flt .f32 s2] ms wt = ([], [], (reckF [.flt .f32 s0, .flt .f32 s1, .flt .f32 s2] ms).2) := by
        unfold chainF
        rw [if_pos f4]
        rw [if_neg (by omega)]
      exact res_ex (by kernel_rfl) (end_same st.inn hE (.inr rfl) (a := .tuple [.agg [.nilslice, .nilslice], .int .i64 (reckF [.flt .f32 s0, .flt .f32 s1, .flt .f32 s2] ms).2]) (by kernel_rfl) gz.next (by rw [hc]; exact ⟨gz, _, _, rfl, (.nil rfl), FreshS.nil, (.nil rfl), FreshS.nil, ApartS.nil⟩))
    ·
      intro vs ls H23 E23 st hE
      have f24 : (reckF [.flt .f32 s0, .flt .f32 s1, .flt .f32 s2] ms).2 = 0 := of_decide_eq_true (bfact (x := decide ((reckF [.flt .f32 s0, .flt .f32 s1, .flt .f32 s2] ms).2 = 0)) st.inn 0 (by kernel_rfl))
      obtain ⟨p25, e26, r27, n28⟩ := ptr_of st.inn hE 10 1 (by kernel_rfl) (ds := [S16, .nilslice]) (by kernel_rfl)
      have op25 : H.next ≤ p25 := Nat.le_trans g19.next (n28 (Nat.le_of_ble_eq_true rfl))
      have ne29 : Apart p25 p5 := ⟨Nat.ne_of_gt (Nat.lt_of_lt_of_le (H15.lt_of_get r20) (n28 (Nat.le_of_ble_eq_true rfl)))⟩
      have ne30 : ApartL (S16) p25 := sS16.apart_new (n28 (Nat.le_of_ble_eq_true rfl))
      have b31 : E23 31 = .int .i64 0 := env_of st.inn hE 31 (by kernel_rfl)
      have b32 : E23 30 = .int .i64 (ms.length : Int) := env_of st.inn hE 30 (by kernel_rfl)
      have b33 : E23 29 = S := env_of st.inn hE 29 (by kernel_rfl)
      have b34 : E23 2 = .flt .f32 wt := env_of st.inn hE 2 (by kernel_rfl)
      have b35 : E23 6 = .ptr p5 0 := env_of st.inn hE 6 (by kernel_rfl)
      have g36 : Grew H15 H23 := (st.kept.grew (Nat.le_of_ble_eq_true (by kernel_rfl)))
      have g37 : Grew H H23 := Grew.trans g19 g36
      have r38 := g36.at r20
      have s39 := sS16.grew g36
      clear st hE vs ls
      refine res_loop (by kernel_rfl) (fun z E H' => ∃ (i : Nat) (acc40_0 : AV), z + i = ms.length ∧ E 30 = .int .i64 (ms.length : Int) ∧ E 29 = S ∧ E 10 = .ptr p25 0 ∧ E 2 = .flt .f32 wt ∧ E 6 = .ptr p5 0 ∧ E 31 = .int .i64 (i : Int) ∧ Grew H H' ∧ H'.get p25 = some (.row [S16, acc40_0] true) ∧ H'.get p5 = some (.row [.nilslice, .nilslice] true) ∧ SlF H' 6 (chainK ms wt i) acc40_0 ∧ FreshS H.next acc40_0 ∧ ApartL acc40_0 p25 ∧ ApartL acc40_0 p5 ∧ ApartS acc40_0 S16 ∧ SlW H' 3 (reckF [.flt .f32 s0, .flt .f32 s1, .flt .f32 s2] ms).1 S16) (ms.length) ⟨0, .nilslice, by omega, b32, b33, e26, b34, b35, b31, g37, r27, r38, (.nil rfl), FreshS.nil, ApartL.nil, ApartL.nil, ApartS.nil, s39⟩ ?_
      rintro z40 Ei40 Hi40 ⟨i40, acc40_0, hz40, c40_30, c40_29, c40_10, c40_2, c40_6, ci40, gt40, r40_0, r40_1, s40_0, f40_0, ap40_0_0, ap40_0_1, apo40_0_0, so40_0⟩
      have hln40_0 : ((chainK ms wt i40)).length = i40 + 0 := chainK_len _ _ _
      refine run_mn (φ := φ0) (pm := pmR 1 [] 0) 20 (nk := [(.atom 0, .one), (.atom 1, .flt .f32), (.atom 2, .flt .f32), (.atom 3, .flt .f32), (.atom 4, .flt .f32), (.atom 5, .bool), (.atom 6, .one), (.atom 7, .int .i64), (.atom 8, .int .i64), (.atom 9, .int .i64), (.atom 10, .one)]) (fs := []) (xs := [S, .flt .f32 s0, .flt .f32 s1, .flt .f32 s2, .flt .f32 wt, .bool (sideB wt), S16, .int .i64 (reckF [.flt .f32 s0, .flt .f32 s1, .flt .f32 s2] ms).2, .int .i64 (ms.length : Int), .int .i64 (i40 : Int), acc40_0]) (ws := [⟨p25, 0, [.nd 6 .one, .nd 10 .one], false⟩, ⟨p5, 0, [.lit .nilslice, .lit .nilslice], true⟩]) (env := [(30, .nd 8 (.int .i64)), (29, .nd 0 .one), (10, .ptr 0 0), (2, .nd 4 (.flt .f32)), (6, .ptr 1 0), (31, .nd 9 (.int .i64))]) ?_ ?_ tb_ok ap_ok ?_
      · refine midN_in ?_ .nil _ ?_ ?_ ?_
        · exact (.cons rfl (slOne hS) (.cons rfl ⟨_, rfl, o0⟩ (.cons rfl ⟨_, rfl, o1⟩ (.cons rfl ⟨_, rfl, o2⟩ (.cons rfl ⟨_, rfl, hw⟩ (.cons rfl ⟨_, rfl⟩ (.cons rfl sS16.one (.cons rfl ⟨_, rfl⟩ (.cons rfl ⟨_, rfl⟩ (.cons rfl ⟨_, rfl⟩ (.cons rfl s40_0.one .nil)))))))))))
        · exact (.cons (win_row r40_0 (dlCons (dNd rfl sS16.one) (dlCons (dNd rfl s40_0.one) dlNil))) (.cons (win_own r40_1 (dlCons (dLit rfl) (dlCons (dLit rfl) dlNil))) .nil))
        · exact ⟨(fun v hv h => (by simp at hv; rcases hv with rfl <;> first | (simp at h; done) | exact Apart.ne (by assumption) | exact (Apart.ne (by assumption)).symm)), ⟨(fun v hv => (by cases hv)), trivial⟩⟩
        · exact .nil
      · exact (envEq c40_30 (dNd rfl ⟨_, rfl⟩) (envEq c40_29 (dNd rfl (slOne hS)) (envEq c40_10 (dPtr (l := p25) (o := 0) rfl) (envEq c40_2 (dNd rfl ⟨_, rfl, hw⟩) (envEq c40_6 (dPtr (l := p5) (o := 0) rfl) (envEq ci40 (dNd rfl ⟨_, rfl⟩) envNil))))))
      refine all2 (by kernel_rfl) ?_ ?_
      ·
        intro vs ls H41 E41 st hE
        have f42 : (i40 : Int) < (ms.length : Int) := of_decide_eq_true (bfact (x := decide ((i40 : Int) < (ms.length : Int))) st.inn 0 (by kernel_rfl))
        have b43 : E41 29 = S := env_of st.inn hE 29 (by kernel_rfl)
        have b44 : E41 31 = .int .i64 (i40 : Int) := env_of st.inn hE 31 (by kernel_rfl)
        have b45 : E41 33 = .int .i64 (i40 : Int) := env_of st.inn hE 33 (by kernel_rfl)
        have b46 : E41 10 = .ptr p25 0 := env_of st.inn hE 10 (by kernel_rfl)
        have b47 : E41 2 = .flt .f32 wt := env_of st.inn hE 2 (by kernel_rfl)
        have b48 : E41 30 = .int .i64 (ms.length : Int) := env_of st.inn hE 30 (by kernel_rfl)
        have b49 : E41 6 = .ptr p5 0 := env_of st.inn hE 6 (by kernel_rfl)
        have g50 : Grew Hi40 H41 := (st.kept.grew (Nat.le_of_ble_eq_true (by kernel_rfl)))
        have g51 : Grew H H41 := Grew.trans gt40 g50
        have r52 := g50.at r40_0
        have r53 := g50.at r40_1
        have s54 := s40_0.grew g50
        have s55 := so40_0.grew g50
        clear st hE vs ls
        have hlt56 : i40 < ms.length := by omega
        obtain ⟨lS56, cap56, rest56, wr56, eS56, gB56⟩ := hS.isSl hlt56
        have gS56 := g51.at gB56
        have ne57 : Apart p25 lS56 := ⟨Nat.ne_of_gt (Nat.lt_of_lt_of_le (H.lt_of_get gB56) op25)⟩
        have ne58 : Apart p5 lS56 := ⟨Nat.ne_of_gt (Nat.lt_of_lt_of_le (H.lt_of_get gB56) op5)⟩
        obtain ⟨v56_0, v56_1, v56_2, hm56, ho56_0, ho56_1, ho56_2⟩ := partsPose (hr.get hlt56)
        have he56 : ms.getD i40 [] = [.flt .f32 v56_0, .flt .f32 v56_1, .flt .f32 v56_2] := by rw [← hm56]; simp [List.getD_eq_getElem?_getD, hlt56]
        refine run_mn (φ := φ0) (pm := pmR 2 [(.ia 3 (.nd 0 .one) (.nd 9 (.int .i64)), .ptr 1 0)] 0) 20 (nk := [(.atom 0, .one), (.atom 1, .flt .f32), (.atom 2, .flt .f32), (.atom 3, .flt .f32), (.atom 4, .flt .f32), (.atom 5, .bool), (.atom 6, .one), (.atom 7, .int .i64), (.atom 8, .int .i64), (.atom 9, .int .i64), (.atom 10, .one), (.atom 11, .flt .f32), (.atom 12, .flt .f32), (.atom 13, .flt .f32)]) (fs := []) (xs := [S, .flt .f32 s0, .flt .f32 s1, .flt .f32 s2, .flt .f32 wt, .bool (sideB wt), S16, .int .i64 (reckF [.flt .f32 s0, .flt .f32 s1, .flt .f32 s2] ms).2, .int .i64 (ms.length : Int), .int .i64 (i40 : Int), acc40_0, .flt .f32 v56_0, .flt .f32 v56_1, .flt .f32 v56_2]) (ws := [⟨p25, 0, [.nd 6 .one, .nd 10 .one], false⟩, ⟨lS56, (i40 * 3), [.nd 11 (.flt .f32), .nd 12 (.flt .f32), .nd 13 (.flt .f32)], false⟩, ⟨p5, 0, [.lit .nilslice, .lit .nilslice], true⟩]) (env := [(29, .nd 0 .one), (31, .nd 9 (.int .i64)), (33, .nd 9 (.int .i64)), (10, .ptr 0 0), (2, .nd 4 (.flt .f32)), (30, .nd 8 (.int .i64)), (6, .ptr 2 0)]) ?_ ?_ tb_ok ap_ok ?_
        · refine midN_in ?_ .nil _ ?_ ?_ ?_
          · exact (.cons rfl (slOne hS) (.cons rfl ⟨_, rfl, o0⟩ (.cons rfl ⟨_, rfl, o1⟩ (.cons rfl ⟨_, rfl, o2⟩ (.cons rfl ⟨_, rfl, hw⟩ (.cons rfl ⟨_, rfl⟩ (.cons rfl sS16.one (.cons rfl ⟨_, rfl⟩ (.cons rfl ⟨_, rfl⟩ (.cons rfl ⟨_, rfl⟩ (.cons rfl s40_0.one (.cons rfl ⟨_, rfl, ho56_0⟩ (.cons rfl ⟨_, rfl, ho56_1⟩ (.cons rfl ⟨_, rfl, ho56_2⟩ .nil))))))))))))))
          · exact (.cons (win_row r52 (dlCons (dNd rfl sS16.one) (dlCons (dNd rfl s40_0.one) dlNil))) (.cons (win_elem hr gS56 hlt56 rfl (by rw [hm56]; exact (dlCons (dNd rfl ⟨_, rfl, ho56_0⟩) (dlCons (dNd rfl ⟨_, rfl, ho56_1⟩) (dlCons (dNd rfl ⟨_, rfl, ho56_2⟩) dlNil))))) (.cons (win_own r53 (dlCons (dLit rfl) (dlCons (dLit rfl) dlNil))) .nil)))
          · exact ⟨(fun v hv h => (by simp at hv; rcases hv with rfl | rfl <;> first | (simp at h; done) | exact Apart.ne (by assumption) | exact (Apart.ne (by assumption)).symm)), ⟨(fun v hv h => (by simp at hv; rcases hv with rfl <;> first | (simp at h; done) | exact Apart.ne (by assumption) | exact (Apart.ne (by assumption)).symm)), ⟨(fun v hv => (by cases hv)), trivial⟩⟩⟩
          · exact (.cons (rule_iaS (k := i40) (dNd rfl (slOne hS)) eS56 (dNd rfl ⟨_, rfl⟩) hlt56 rfl) .nil)
        · exact (envEq b43 (dNd rfl (slOne hS)) (envEq b44 (dNd rfl ⟨_, rfl⟩) (envEq b45 (dNd rfl ⟨_, rfl⟩) (envEq b46 (dPtr (l := p25) (o := 0) rfl) (envEq b47 (dNd rfl ⟨_, rfl, hw⟩) (envEq b48 (dNd rfl ⟨_, rfl⟩) (envEq b49 (dPtr (l := p5) (o := 0) rfl) envNil)))))))
        refine all1 (by kernel_rfl) ?_
        intro vs ls H59 E59 st hE
        obtain ⟨w60, hw60⟩ : ∃ z, z = (IntKind.wrap .i64 ((i40 : Int) + 1)) := ⟨_, rfl⟩
        obtain ⟨p61, e62, r63, n64⟩ := sl_of st.inn hE 44 4 1 1 6 (by kernel_rfl) (ds := [.int .i64 (i40 : Int), .int .i64 (IntKind.wrap .i64 ((i40 : Int) + 1)), .flt .f32 v56_0, .flt .f32 v56_1, .flt .f32 v56_2, .flt .f32 wt]) (by kernel_rfl)
        rw [← hw60] at r63
        have op61 : H.next ≤ p61 := Nat.le_trans g51.next (n64 (Nat.le_of_ble_eq_true rfl))
        have ne65 : Apart p61 p25 := ⟨Nat.ne_of_gt (Nat.lt_of_lt_of_le (H41.lt_of_get r52) (n64 (Nat.le_of_ble_eq_true rfl)))⟩
        have ne66 : Apart p61 p5 := ⟨Nat.ne_of_gt (Nat.lt_of_lt_of_le (H41.lt_of_get r53) (n64 (Nat.le_of_ble_eq_true rfl)))⟩
        have ne67 : ApartL (acc40_0) p61 := s54.apart_new (n64 (Nat.le_of_ble_eq_true rfl))
        have ne68 : ApartL (S16) p61 := s55.apart_new (n64 (Nat.le_of_ble_eq_true rfl))
        have b69 : E59 37 = acc40_0 := env_of st.inn hE 37 (by kernel_rfl)
        have b70 : E59 10 = .ptr p25 0 := env_of st.inn hE 10 (by kernel_rfl)
        have b71 : E59 31 = .int .i64 (i40 : Int) := env_of st.inn hE 31 (by kernel_rfl)
        have b72 : E59 30 = .int .i64 (ms.length : Int) := env_of st.inn hE 30 (by kernel_rfl)
        have b73 : E59 29 = S := env_of st.inn hE 29 (by kernel_rfl)
        have b74 : E59 2 = .flt .f32 wt := env_of st.inn hE 2 (by kernel_rfl)
        have b75 : E59 6 = .ptr p5 0 := env_of st.inn hE 6 (by kernel_rfl)
        have g76 : Grew H41 H59 := (st.kept.grew (Nat.le_of_ble_eq_true (by kernel_rfl)))
        have g77 : Grew H H59 := Grew.trans g51 g76
        have r78 := g76.at r52
        have r80 := g76.at r53
        have s81 := s54.grew g76
        have s82 := s55.grew g76
        clear st hE vs ls
        refine res_append (d := (some 45)) (sz := 6) (bytes := 32) (x := .tmp 37) (y := .tmp 44) (by kernel_rfl) (S := acc40_0) (ms := (chainK ms wt i40)) (ys := [[.int .i64 (i40 : Int), .int .i64 w60, .flt .f32 v56_0, .flt .f32 v56_1, .flt .f32 v56_2, .flt .f32 wt]]) (by show E59 37 = _; exact b69) s81 (chainK_recs hr hw (show i40 ≤ ms.length by omega)).len (by show srcCells _ _ (E59 44) = _; rw [e62]; exact src_one r63 rfl) (recs_one (ks := KL) (Recs.one (ks := KL) (.cons ⟨_, rfl⟩ (.cons ⟨_, rfl⟩ (.cons ⟨_, rfl, ho56_0⟩ (.cons ⟨_, rfl, ho56_1⟩ (.cons ⟨_, rfl, ho56_2⟩ (.cons ⟨_, rfl, hw⟩ .nil))))))) rfl) (by show (2 * ((chainK ms wt i40).length + 1) + 192) * 32 ≤ 281474976710656; omega) ?_
        intro S83 H84 sS83 fS83 oS83
        have ne85 : ApartL (S83) p25 := fS83.apartL (H59.lt_of_get r78) (by assumption)
        have ne86 : ApartL (S83) p61 := fS83.apartL (H59.lt_of_get r63) (by assumption)
        have ne87 : ApartL (S83) p5 := fS83.apartL (H59.lt_of_get r80) (by assumption)
        have ne88 : ApartS (S83) (S16) := fS83.apartS s82.lt (by first | assumption | exact ApartS.symm (by assumption))
        have fr89 : FreshS H.next (S83) := fS83.fresh f40_0 g77.next
        have g90 : Grew H H84 := OnlyS.own g77 f40_0 oS83
        have r91 := oS83.at r78 (by assumption)
        have r92 := oS83.at r63 (by assumption)
        have r93 := oS83.at r80 (by assumption)
        have s94 := s82.only oS83 (ApartS.symm (by first | assumption | exact ApartS.symm (by assumption)))
        refine run_mn (φ := φ0) (pm := pmR 1 [] 0) 20 (nk := [(.atom 0, .one), (.atom 1, .flt .f32), (.atom 2, .flt .f32), (.atom 3, .flt .f32), (.atom 4, .flt .f32), (.atom 5, .bool), (.atom 6, .one), (.atom 7, .int .i64), (.atom 8, .int .i64), (.atom 9, .int .i64), (.atom 10, .one), (.atom 11, .flt .f32), (.atom 12, .flt .f32), (.atom 13, .flt .f32), (.atom 14, .int .i64), (.atom 15, .one)]) (fs := []) (xs := [S, .flt .f32 s0, .flt .f32 s1, .flt .f32 s2, .flt .f32 wt, .bool (sideB wt), S16, .int .i64 (reckF [.flt .f32 s0, .flt .f32 s1, .flt .f32 s2] ms).2, .int .i64 (ms.length : Int), .int .i64 (i40 : Int), acc40_0, .flt .f32 v56_0, .flt .f32 v56_1, .flt .f32 v56_2, .int .i64 w60, S83]) (ws := [⟨p61, 0, [.nd 9 (.int .i64), .nd 14 (.int .i64), .nd 11 (.flt .f32), .nd 12 (.flt .f32), .nd 13 (.flt .f32), .nd 4 (.flt .f32)], false⟩, ⟨p5, 0, [.lit .nilslice, .lit .nilslice], true⟩, ⟨p25, 0, [.nd 6 .one, .nd 10 .one], true⟩]) (env := [(37, .nd 10 .one), (44, .sl 0 0 1 1 6), (10, .ptr 2 0), (31, .nd 9 (.int .i64)), (30, .nd 8 (.int .i64)), (29, .nd 0 .one), (2, .nd 4 (.flt .f32)), (6, .ptr 1 0), (45, .nd 15 .one)]) ?_ ?_ tb_ok ap_ok ?_
        · refine midN_in ?_ .nil _ ?_ ?_ ?_
          · exact (.cons rfl (slOne hS) (.cons rfl ⟨_, rfl, o0⟩ (.cons rfl ⟨_, rfl, o1⟩ (.cons rfl ⟨_, rfl, o2⟩ (.cons rfl ⟨_, rfl, hw⟩ (.cons rfl ⟨_, rfl⟩ (.cons rfl sS16.one (.cons rfl ⟨_, rfl⟩ (.cons rfl ⟨_, rfl⟩ (.cons rfl ⟨_, rfl⟩ (.cons rfl s40_0.one (.cons rfl ⟨_, rfl, ho56_0⟩ (.cons rfl ⟨_, rfl, ho56_1⟩ (.cons rfl ⟨_, rfl, ho56_2⟩ (.cons rfl ⟨_, rfl⟩ (.cons rfl sS83.one .nil))))))))))))))))
          · exact (.cons (win_row r92 (dlCons (dNd rfl ⟨_, rfl⟩) (dlCons (dNd rfl ⟨_, rfl⟩) (dlCons (dNd rfl ⟨_, rfl, ho56_0⟩) (dlCons (dNd rfl ⟨_, rfl, ho56_1⟩) (dlCons (dNd rfl ⟨_, rfl, ho56_2⟩) (dlCons (dNd rfl ⟨_, rfl, hw⟩) dlNil))))))) (.cons (win_own r93 (dlCons (dLit rfl) (dlCons (dLit rfl) dlNil))) (.cons (win_own r91 (dlCons (dNd rfl sS16.one) (dlCons (dNd rfl s40_0.one) dlNil))) .nil)))
          · exact ⟨(fun v hv h => (by simp at hv; rcases hv with rfl | rfl <;> first | (simp at h; done) | exact Apart.ne (by assumption) | exact (Apart.ne (by assumption)).symm)), ⟨(fun v hv h => (by simp at hv; rcases hv with rfl <;> first | (simp at h; done) | exact Apart.ne (by assumption) | exact (Apart.ne (by assumption)).symm)), ⟨(fun v hv => (by cases hv)), trivial⟩⟩⟩
          · exact .nil
        · exact (envEq (put_ne rfl b69) (dNd rfl s40_0.one) (envEq (put_ne rfl e62) (dSl' (l := p61) (o := 0) rfl) (envEq (put_ne rfl b70) (dPtr (l := p25) (o := 0) rfl) (envEq (put_ne rfl b71) (dNd rfl ⟨_, rfl⟩) (envEq (put_ne rfl b72) (dNd rfl ⟨_, rfl⟩) (envEq (put_ne rfl b73) (dNd rfl (slOne hS)) (envEq (put_ne rfl b74) (dNd rfl ⟨_, rfl, hw⟩) (envEq (put_ne rfl b75) (dPtr (l := p5) (o := 0) rfl) (envEq put_same (dNd rfl sS83.one) envNil)))))))))
        refine all1 (by kernel_rfl) ?_
        intro vs ls H95 E95 st hE
        have r96 : H95.get p5 = some (.row [.nilslice, .nilslice] true) := row_whole st.inn 1 (l := p5) (b := 0) rfl (by kernel_rfl)
        have r97 : H95.get p25 = some (.row [S16, S83] true) := row_whole st.inn 2 (l := p25) (b := 0) rfl (by kernel_rfl)
        obtain ⟨w98, hw98⟩ : ∃ z, z = (IntKind.wrap .i64 ((i40 : Int) + 1)) := ⟨_, rfl⟩
        have b99 : E95 31 = .int .i64 w98 := by rw [hw98]; exact env_of st.inn hE 31 (by kernel_rfl)
        have b100 : E95 30 = .int .i64 (ms.length : Int) := env_of st.inn hE 30 (by kernel_rfl)
        have b101 : E95 29 = S := env_of st.inn hE 29 (by kernel_rfl)
        have b102 : E95 10 = .ptr p25 0 := env_of st.inn hE 10 (by kernel_rfl)
        have b103 : E95 2 = .flt .f32 wt := env_of st.inn hE 2 (by kernel_rfl)
        have b104 : E95 6 = .ptr p5 0 := env_of st.inn hE 6 (by kernel_rfl)
        have g106 : Grew H H95 := grew_own g90 st.inn.kept ⟨op5, ⟨op25, trivial⟩⟩
        have r107 := kept_at st.inn.kept r92 ⟨by first | assumption | exact Apart.symm (by assumption), ⟨by first | assumption | exact Apart.symm (by assumption), trivial⟩⟩
        have s108 := s94.keep st.inn.kept ⟨by assumption, ⟨by assumption, trivial⟩⟩
        have s109 := sS83.keep st.inn.kept ⟨by assumption, ⟨by assumption, trivial⟩⟩
        clear st hE vs ls
        have hz9 : z40 - 1 < z40 := by omega
        have hy9 : z40 - 1 + (i40 + 1) = ms.length := by omega
        have hi9 : E95 31 = .int .i64 ((i40 + 1 : Nat) : Int) := by rw [b99, hw98, wrap64 (by omega)]
        have hs9 : chainK ms wt (i40 + 1) = ((chainK ms wt i40) ++ [[.int .i64 (i40 : Int), .int .i64 w60, .flt .f32 v56_0, .flt .f32 v56_1, .flt .f32 v56_2, .flt .f32 wt]]) := by
          rw [chainK_succ]; unfold chainL; rw [he56]
          simp only [hw60, hw98, wrap64 (show i40 < 4611686018427387904 by omega)]; rfl
        exact res_norm (by kernel_rfl) ⟨z40 - 1, hz9, i40 + 1, S83, hy9, b100, b101, b102, b103, b104, hi9, g106, r97, r96, (by rw [hs9]; exact s109), fr89, (by assumption), (by assumption), (by first | assumption | exact ApartS.symm (by assumption)), s108⟩
      ·
        intro vs ls H110 E110 st hE
        have f111 : ¬ ((i40 : Int) < (ms.length : Int)) := of_decide_eq_false (bfact (x := decide ((i40 : Int) < (ms.length : Int))) st.inn 0 (by kernel_rfl))
        have b112 : E110 31 = .int .i64 (i40 : Int) := env_of st.inn hE 31 (by kernel_rfl)
        have b113 : E110 30 = .int .i64 (ms.length : Int) := env_of st.inn hE 30 (by kernel_rfl)
        obtain ⟨w114, hw114⟩ : ∃ z, z = (decide ((i40 : Int) < (ms.length : Int))) := ⟨_, rfl⟩
        have b115 : E110 32 = .bool w114 := by rw [hw114]; exact env_of st.inn hE 32 (by kernel_rfl)
        have b116 : E110 29 = S := env_of st.inn hE 29 (by kernel_rfl)
        have b117 : E110 10 = .ptr p25 0 := env_of st.inn hE 10 (by kernel_rfl)
        have b118 : E110 2 = .flt .f32 wt := env_of st.inn hE 2 (by kernel_rfl)
        have b119 : E110 6 = .ptr p5 0 := env_of st.inn hE 6 (by kernel_rfl)
        have g120 : Grew Hi40 H110 := (st.kept.grew (Nat.le_of_ble_eq_true (by kernel_rfl)))
        have g121 : Grew H H110 := Grew.trans gt40 g120
        have r122 := g120.at r40_0
        have r123 := g120.at r40_1
        have s124 := s40_0.grew g120
        have s125 := so40_0.grew g120
        clear st hE vs ls
        refine res_exit (id := 0) (by kernel_rfl) ?_
        refine run_mn (φ := φ0) (pm := pmR 1 [] 0) 20 (nk := [(.atom 0, .one), (.atom 1, .flt .f32), (.atom 2, .flt .f32), (.atom 3, .flt .f32), (.atom 4, .flt .f32), (.atom 5, .bool), (.atom 6, .one), (.atom 7, .int .i64), (.atom 8, .int .i64), (.atom 9, .int .i64), (.atom 10, .one), (.atom 11, .bool)]) (fs := []) (xs := [S, .flt .f32 s0, .flt .f32 s1, .flt .f32 s2, .flt .f32 wt, .bool (sideB wt), S16, .int .i64 (reckF [.flt .f32 s0, .flt .f32 s1, .flt .f32 s2] ms).2, .int .i64 (ms.length : Int), .int .i64 (i40 : Int), acc40_0, .bool w114]) (ws := [⟨p25, 0, [.nd 6 .one, .nd 10 .one], false⟩, ⟨p5, 0, [.lit .nilslice, .lit .nilslice], true⟩]) (env := [(31, .nd 9 (.int .i64)), (30, .nd 8 (.int .i64)), (32, .nd 11 .bool), (29, .nd 0 .one), (10, .ptr 0 0), (2, .nd 4 (.flt .f32)), (6, .ptr 1 0)]) ?_ ?_ tb_ok ap_ok ?_
        · refine midN_in ?_ .nil _ ?_ ?_ ?_
          · exact (.cons rfl (slOne hS) (.cons rfl ⟨_, rfl, o0⟩ (.cons rfl ⟨_, rfl, o1⟩ (.cons rfl ⟨_, rfl, o2⟩ (.cons rfl ⟨_, rfl, hw⟩ (.cons rfl ⟨_, rfl⟩ (.cons rfl sS16.one (.cons rfl ⟨_, rfl⟩ (.cons rfl ⟨_, rfl⟩ (.cons rfl ⟨_, rfl⟩ (.cons rfl s40_0.one (.cons rfl ⟨_, rfl⟩ .nil))))))))))))
          · exact (.cons (win_row r122 (dlCons (dNd rfl sS16.one) (dlCons (dNd rfl s40_0.one) dlNil))) (.cons (win_own r123 (dlCons (dLit rfl) (dlCons (dLit rfl) dlNil))) .nil))
          · exact ⟨(fun v hv h => (by simp at hv; rcases hv with rfl <;> first | (simp at h; done) | exact Apart.ne (by assumption) | exact (Apart.ne (by assumption)).symm)), ⟨(fun v hv => (by cases hv)), trivial⟩⟩
          · exact .nil
        · exact (envEq b112 (dNd rfl ⟨_, rfl⟩) (envEq b113 (dNd rfl ⟨_, rfl⟩) (envEq b115 (dNd rfl ⟨_, rfl⟩) (envEq b116 (dNd rfl (slOne hS)) (envEq b117 (dPtr (l := p25) (o := 0) rfl) (envEq b118 (dNd rfl ⟨_, rfl, hw⟩) (envEq b119 (dPtr (l := p5) (o := 0) rfl) envNil)))))))
        refine all1 (by kernel_rfl) ?_
        intro vs ls H126 E126 st hE
        have gz : Grew H H126 := (grew_own g121 (st.inn.kept) ⟨op5, trivial⟩)
        have hin : ms.length = i40 := by omega
        have hc : chainF [.flt .f32 s0, .flt .f32 s1, .flt .f32 s2] ms wt = ((reckF [.flt .f32 s0, .flt .f32 s1, .flt .f32 s2] ms).1, chainK ms wt ms.length, 0) := by
          unfold chainF
          rw [if_pos f4]
          rw [if_pos (by omega)]
        exact res_ex (by kernel_rfl) (end_same st.inn hE (.inr rfl) (a := .tuple [.agg [S16, acc40_0], .int .i64 0]) (by kernel_rfl) gz.next (by rw [hc]; exact ⟨gz, _, _, rfl, (s125.keep st.inn.kept ⟨by assumption, trivial⟩), fr18, (by rw [hin]; exact ((s124.keep st.inn.kept ⟨by assumption, trivial⟩)).toW), f40_0, (by first | assumption | exact ApartS.symm (by assumption))⟩))
theorem k_spec_ChainGraph (H : AHeap) (s0 s1 s2 : Option Nat) (o0 : fOk .f32 s0) (o1 : fOk .f32 s1) (o2 : fOk .f32 s2) (ms : List (List AV)) (hr : Recs KP ms) (S : AV) (hS : SlL H 3 ms S) (hmx : ms.length < 2 ^ 40) (wt : Option Nat) (hw : fOk .f32 wt) : ACalls Try.prog 36 [.agg [.flt .f32 s0, .flt .f32 s1, .flt .f32 s2], S, .flt .f32 wt] H fun r H' => Grew H H' ∧ ∃ S' Sk', r = .tuple [.agg [S', Sk'], .int .i64 (chainF [.flt .f32 s0, .flt .f32 s1, .flt .f32 s2] ms wt).2.2] ∧ SlW H' 3 (chainF [.flt .f32 s0, .flt .f32 s1, .flt .f32 s2] ms wt).1 S' ∧ FreshS H.next S' ∧ SlW H' 6 (chainF [.flt .f32 s0, .flt .f32 s1, .flt .f32 s2] ms wt).2.1 Sk' ∧ FreshS H.next Sk' ∧ ApartS S' Sk' := by
  refine res_start h_spec_ChainGraph (by simp) ?_
  refine run_mn (φ := φ0) (pm := pmR 0 [] 0) 20 (nk := [(.atom 0, .one), (.atom 1, .flt .f32), (.atom 2, .flt .f32), (.atom 3, .flt .f32), (.atom 4, .flt .f32)]) (fs := []) (xs := [S, .flt .f32 s0, .flt .f32 s1, .flt .f32 s2, .flt .f32 wt]) (ws := []) (env := [(0, .agg [.nd 1 (.flt .f32), .nd 2 (.flt .f32), .nd 3 (.flt .f32)]), (1, .nd 0 .one), (2, .nd 4 (.flt .f32))]) ?_ ?_ tb_ok ap_ok ?_
  · refine midN_in ?_ .nil _ ?_ ?_ ?_
    · exact (.cons rfl (slOne hS) (.cons rfl ⟨_, rfl, o0⟩ (.cons rfl ⟨_, rfl, o1⟩ (.cons rfl ⟨_, rfl, o2⟩ (.cons rfl ⟨_, rfl, hw⟩ .nil)))))
    · exact .nil
    · exact sepOk_ro rfl
    · exact .nil
  · exact (envEq rfl (dAgg (dlCons (dNd rfl ⟨_, rfl, o0⟩) (dlCons (dNd rfl ⟨_, rfl, o1⟩) (dlCons (dNd rfl ⟨_, rfl, o2⟩) dlNil)))) (envEq rfl (dNd rfl (slOne hS)) (envEq rfl (dNd rfl ⟨_, rfl, hw⟩) envNil)))
  refine all1 (by kernel_rfl) ?_
  intro vs ls H1 E1 st hE
  obtain ⟨p2, e3, r4, n5⟩ := ptr_of st.inn hE 6 1 (by kernel_rfl) (ds := [.nilslice, .nilslice]) (by kernel_rfl)
  have op2 : H.next ≤ p2 := Nat.le_trans (Nat.le_refl _) (n5 (Nat.le_of_ble_eq_true rfl))
  have b6 : E1 13 = .agg [.flt .f32 s0, .flt .f32 s1, .flt .f32 s2] := env_of st.inn hE 13 (by kernel_rfl)
  have b7 : E1 14 = S := env_of st.inn hE 14 (by kernel_rfl)
  have b8 : E1 2 = .flt .f32 wt := env_of st.inn hE 2 (by kernel_rfl)
  have b9 : E1 1 = S := env_of st.inn hE 1 (by kernel_rfl)
  have g10 : Grew H H1 := (st.kept.grew (Nat.le_of_ble_eq_true (by kernel_rfl)))
  have g11 : Grew H H1 := Grew.trans (Grew.refl _) g10
  clear st hE vs ls
  refine res_call (d := (some 15)) (f := 56) (args := [.tmp 13, .tmp 14]) (by kernel_rfl) (R := fun z H' => Grew H1 H' ∧ ∃ S', z = .tuple [S', .int .i64 (reckF [.flt .f32 s0, .flt .f32 s1, .flt .f32 s2] ms).2] ∧ SlW H' 3 (reckF [.flt .f32 s0, .flt .f32 s1, .flt .f32 s2] ms).1 S' ∧ FreshS H1.next S') ?_ ?_
  · show ACalls _ _ [E1 13, E1 14] _ _
    rw [b6, b7]
    exact k_l06Reckon H1 s0 s1 s2 o0 o1 o2 ms hr S (hS.grew g11) hmx
  rintro z H12 ⟨gH12, S13, rfl, sS13, fS13⟩
  have ne14 : ApartL (S13) p2 := fS13.apartL (H1.lt_of_get r4)
  have fr15 : FreshS H.next (S13) := fS13.mono g11.next
  have g16 : Grew H H12 := Grew.trans g11 gH12
  have r17 := gH12.at r4
  refine run_mn (φ := φ0) (pm := pmR 0 [(.call 72 [.nd 4 (.flt .f32)], .nd 7 .bool)] 0) 20 (nk := [(.atom 0, .one), (.atom 1, .flt .f32), (.atom 2, .flt .f32), (.atom 3, .flt .f32), (.atom 4, .flt .f32), (.atom 5, .one), (.atom 6, .int .i64), (.atom 7, .bool)]) (fs := []) (xs := [S, .flt .f32 s0, .flt .f32 s1, .flt .f32 s2, .flt .f32 wt, S13, .int .i64 (reckF [.flt .f32 s0, .flt .f32 s1, .flt .f32 s2] ms).2, .bool (sideB wt)]) (ws := [⟨p2, 0, [.lit .nilslice, .lit .nilslice], true⟩]) (env := [(13, .agg [.nd 1 (.flt .f32), .nd 2 (.flt .f32), .nd 3 (.flt .f32)]), (14, .nd 0 .one), (2, .nd 4 (.flt .f32)), (6, .ptr 0 0), (1, .nd 0 .one), (15, .tup [.nd 5 .one, .nd 6 (.int .i64)])]) ?_ ?_ tb_ok ap_ok ?_
  · refine midN_in ?_ .nil _ ?_ ?_ ?_
    · exact (.cons rfl (slOne hS) (.cons rfl ⟨_, rfl, o0⟩ (.cons rfl ⟨_, rfl, o1⟩ (.cons rfl ⟨_, rfl, o2⟩ (.cons rfl ⟨_, rfl, hw⟩ (.cons rfl sS13.one (.cons rfl ⟨_, rfl⟩ (.cons rfl ⟨_, rfl⟩ .nil))))))))
    · exact (.cons (win_own r17 (dlCons (dLit rfl) (dlCons (dLit rfl) dlNil))) .nil)
    · exact ⟨(fun v hv => (by cases hv)), trivial⟩
    · exact (.cons (rule_call (args := [.flt .f32 wt]) (dlCons (dNd rfl ⟨_, rfl, hw⟩) dlNil) (dNd rfl ⟨_, rfl⟩) (fun H9 hk => k_l06Weight wt hw H9)) .nil)
  · exact (envEq (put_ne rfl b6) (dAgg (dlCons (dNd rfl ⟨_, rfl, o0⟩) (dlCons (dNd rfl ⟨_, rfl, o1⟩) (dlCons (dNd rfl ⟨_, rfl, o2⟩) dlNil)))) (envEq (put_ne rfl b7) (dNd rfl (slOne hS)) (envEq (put_ne rfl b8) (dNd rfl ⟨_, rfl, hw⟩) (envEq (put_ne rfl e3) (dPtr (l := p2) (o := 0) rfl) (envEq (put_ne rfl b9) (dNd rfl (slOne hS)) (envEq put_same (dTup' (dlCons (dNd rfl sS13.one) (dlCons (dNd rfl ⟨_, rfl⟩) dlNil))) envNil))))))
  refine all4 (by kernel_rfl) ?_ ?_ ?_ ?_
  ·
    intro vs ls H18 E18 st hE
    have f19 : (reckF [.flt .f32 s0, .flt .f32 s1, .flt .f32 s2] ms).2 = 2 := of_decide_eq_true (bfact (x := decide ((reckF [.flt .f32 s0, .flt .f32 s1, .flt .f32 s2] ms).2 = 2)) st.inn 0 (by kernel_rfl))
    have gz : Grew H H18 := (grew_own g16 (st.inn.kept) ⟨op2, trivial⟩)
    have hc : chainF [.flt .f32 s0, .flt .f32 s1, .flt .f32 s2] ms wt = ([], [], 2) := by
      unfold chainF
      have h2 : (reckF [.flt .f32 s0, .flt .f32 s1, .flt .f32 s2] ms).2 = 2 := by omega
      rw [h2]; simp
    exact res_ex (by kernel_rfl) (end_same st.inn hE (.inr rfl) (a := .tuple [.agg [.nilslice, .nilslice], .int .i64 2]) (by kernel_rfl) gz.next (by rw [hc]; exact ⟨gz, _, _, rfl, (.nil rfl), FreshS.nil, (.nil rfl), FreshS.nil, ApartS.nil⟩))
  ·
    intro vs ls H20 E20 st hE
    have f21 : (sideB wt) = false := bfact st.inn 0 (by kernel_rfl)
    have f22 : ¬ ((reckF [.flt .f32 s0, .flt .f32 s1, .flt .f32 s2] ms).2 = 2) := of_decide_eq_false (bfact (x := decide ((reckF [.flt .f32 s0, .flt .f32 s1, .flt .f32 s2] ms).2 = 2)) st.inn 1 (by kernel_rfl))
    have gz : Grew H H20 := (grew_own g16 (st.inn.kept) ⟨op2, trivial⟩)
    have hc : chainF [.flt .f32 s0, .flt .f32 s1, .flt .f32 s2] ms wt = ([], [], 2) := by
      unfold chainF
      rw [if_neg (by rw [f21]; decide)]
    exact res_ex (by kernel_rfl) (end_same st.inn hE (.inr rfl) (a := .tuple [.agg [.nilslice, .nilslice], .int .i64 2]) (by kernel_rfl) gz.next (by rw [hc]; exact ⟨gz, _, _, rfl, (.nil rfl), FreshS.nil, (.nil rfl), FreshS.nil, ApartS.nil⟩))
  ·
    intro vs ls H23 E23 st hE
    have f24 : ¬ ((reckF [.flt .f32 s0, .flt .f32 s1, .flt .f32 s2] ms).2 = 0) := of_decide_eq_false (bfact (x := decide ((reckF [.flt .f32 s0, .flt .f32 s1, .flt .f32 s2] ms).2 = 0)) st.inn 0 (by kernel_rfl))
    have f25 : (sideB wt) = true := bfact st.inn 1 (by kernel_rfl)
    have f26 : ¬ ((reckF [.flt .f32 s0, .flt .f32 s1, .flt .f32 s2] ms).2 = 2) := of_decide_eq_false (bfact (x := decide ((reckF [.flt .f32 s0, .flt .f32 s1, .flt .f32 s2] ms).2 = 2)) st.inn 2 (by kernel_rfl))
    have gz : Grew H H23 := (grew_own g16 (st.inn.kept) ⟨op2, trivial⟩)
    have hc : chainF [.flt .f32 s0, .flt .f32 s1, .flt .f32 s2] ms wt = ([], [], (reckF [.flt .f32 s0, .flt .f32 s1, .flt .f32 s2] ms).2) := by
      unfold chainF
      rw [if_pos f25]
      rw [if_neg (by omega)]
    exact res_ex (by kernel_rfl) (end_same st.inn hE (.inr rfl) (a := .tuple [.agg [.nilslice, .nilslice], .int .i64 (reckF [.flt .f32 s0, .flt .f32 s1, .flt .f32 s2] ms).2]) (by kernel_rfl) gz.next (by rw [hc]; exact ⟨gz, _, _, rfl, (.nil rfl), FreshS.nil, (.nil rfl), FreshS.nil, ApartS.nil⟩))
  ·
    intro vs ls H27 E27 st hE
    have f28 : (reckF [.flt .f32 s0, .flt .f32 s1, .flt .f32 s2] ms).2 = 0 := of_decide_eq_true (bfact (x := decide ((reckF [.flt .f32 s0, .flt .f32 s1, .flt .f32 s2] ms).2 = 0)) st.inn 0 (by kernel_rfl))
    have f29 : (sideB wt) = true := bfact st.inn 1 (by kernel_rfl)
    have f30 : ¬ ((reckF [.flt .f32 s0, .flt .f32 s1, .flt .f32 s2] ms).2 = 2) := of_decide_eq_false (bfact (x := decide ((reckF [.flt .f32 s0, .flt .f32 s1, .flt .f32 s2] ms).2 = 2)) st.inn 2 (by kernel_rfl))
    obtain ⟨p31, e32, r33, n34⟩ := ptr_of st.inn hE 10 1 (by kernel_rfl) (ds := [S13, .nilslice]) (by kernel_rfl)
    have op31 : H.next ≤ p31 := Nat.le_trans g16.next (n34 (Nat.le_of_ble_eq_true rfl))
    have ne35 : Apart p31 p2 := ⟨Nat.ne_of_gt (Nat.lt_of_lt_of_le (H12.lt_of_get r17) (n34 (Nat.le_of_ble_eq_true rfl)))⟩
    have ne36 : ApartL (S13) p31 := sS13.apart_new (n34 (Nat.le_of_ble_eq_true rfl))
    have b37 : E27 11 = .int .i64 0 := env_of st.inn hE 11 (by kernel_rfl)
    have b38 : E27 1 = S := env_of st.inn hE 1 (by kernel_rfl)
    have b39 : E27 2 = .flt .f32 wt := env_of st.inn hE 2 (by kernel_rfl)
    have b40 : E27 6 = .ptr p2 0 := env_of st.inn hE 6 (by kernel_rfl)
    have g41 : Grew H12 H27 := (st.kept.grew (Nat.le_of_ble_eq_true (by kernel_rfl)))
    have g42 : Grew H H27 := Grew.trans g16 g41
    have r43 := g41.at r17
    have s44 := sS13.grew g41
    clear st hE vs ls
    refine res_loop (by kernel_rfl) (fun z E H' => ∃ (i : Nat) (acc45_0 : AV), z + i = ms.length ∧ E 1 = S ∧ E 10 = .ptr p31 0 ∧ E 2 = .flt .f32 wt ∧ E 6 = .ptr p2 0 ∧ E 11 = .int .i64 (i : Int) ∧ Grew H H' ∧ H'.get p31 = some (.row [S13, acc45_0] true) ∧ H'.get p2 = some (.row [.nilslice, .nilslice] true) ∧ SlF H' 6 (chainK ms wt i) acc45_0 ∧ FreshS H.next acc45_0 ∧ ApartL acc45_0 p31 ∧ ApartL acc45_0 p2 ∧ ApartS acc45_0 S13 ∧ SlW H' 3 (reckF [.flt .f32 s0, .flt .f32 s1, .flt .f32 s2] ms).1 S13) (ms.length) ⟨0, .nilslice, by omega, b38, e32, b39, b40, b37, g42, r33, r43, (.nil rfl), FreshS.nil, ApartL.nil, ApartL.nil, ApartS.nil, s44⟩ ?_
    rintro z45 Ei45 Hi45 ⟨i45, acc45_0, hz45, c45_1, c45_10, c45_2, c45_6, ci45, gt45, r45_0, r45_1, s45_0, f45_0, ap45_0_0, ap45_0_1, apo45_0_0, so45_0⟩
    have hln45_0 : ((chainK ms wt i45)).length = i45 + 0 := chainK_len _ _ _
    refine run_mn (φ := φ0) (pm := pmR 1 [(.len (.nd 0 .one), .nd 10 (.int .i64))] 0) 20 (nk := [(.atom 0, .one), (.atom 1, .flt .f32), (.atom 2, .flt .f32), (.atom 3, .flt .f32), (.atom 4, .flt .f32), (.atom 5, .one), (.atom 6, .int .i64), (.atom 7, .bool), (.atom 8, .int .i64), (.atom 9, .one), (.atom 10, .int .i64)]) (fs := []) (xs := [S, .flt .f32 s0, .flt .f32 s1, .flt .f32 s2, .flt .f32 wt, S13, .int .i64 (reckF [.flt .f32 s0, .flt .f32 s1, .flt .f32 s2] ms).2, .bool (sideB wt), .int .i64 (i45 : Int), acc45_0, .int .i64 (ms.length : Int)]) (ws := [⟨p31, 0, [.nd 5 .one, .nd 9 .one], false⟩, ⟨p2, 0, [.lit .nilslice, .lit .nilslice], true⟩]) (env := [(1, .nd 0 .one), (10, .ptr 0 0), (2, .nd 4 (.flt .f32)), (6, .ptr 1 0), (11, .nd 8 (.int .i64))]) ?_ ?_ tb_ok ap_ok ?_
    · refine midN_in ?_ .nil _ ?_ ?_ ?_
      · exact (.cons rfl (slOne hS) (.cons rfl ⟨_, rfl, o0⟩ (.cons rfl ⟨_, rfl, o1⟩ (.cons rfl ⟨_, rfl, o2⟩ (.cons rfl ⟨_, rfl, hw⟩ (.cons rfl sS13.one (.cons rfl ⟨_, rfl⟩ (.cons rfl ⟨_, rfl⟩ (.cons rfl ⟨_, rfl⟩ (.cons rfl s45_0.one (.cons rfl ⟨_, rfl⟩ .nil)))))))))))
      · exact (.cons (win_row r45_0 (dlCons (dNd rfl sS13.one) (dlCons (dNd rfl s45_0.one) dlNil))) (.cons (win_own r45_1 (dlCons (dLit rfl) (dlCons (dLit rfl) dlNil))) .nil))
      · exact ⟨(fun v hv h => (by simp at hv; rcases hv with rfl <;> first | (simp at h; done) | exact Apart.ne (by assumption) | exact (Apart.ne (by assumption)).symm)), ⟨(fun v hv => (by cases hv)), trivial⟩⟩
      · exact (.cons (⟨_, _, (dNd rfl (slOne hS)), (dNd rfl ⟨_, rfl⟩), slLen hS⟩) .nil)
    · exact (envEq c45_1 (dNd rfl (slOne hS)) (envEq c45_10 (dPtr (l := p31) (o := 0) rfl) (envEq c45_2 (dNd rfl ⟨_, rfl, hw⟩) (envEq c45_6 (dPtr (l := p2) (o := 0) rfl) (envEq ci45 (dNd rfl ⟨_, rfl⟩) envNil)))))
    refine all2 (by kernel_rfl) ?_ ?_
    ·
      intro vs ls H46 E46 st hE
      have f47 : (i45 : Int) < (ms.length : Int) := of_decide_eq_true (bfact (x := decide ((i45 : Int) < (ms.length : Int))) st.inn 0 (by kernel_rfl))
      have b48 : E46 43 = S := env_of st.inn hE 43 (by kernel_rfl)
      have b49 : E46 44 = .int .i64 (i45 : Int) := env_of st.inn hE 44 (by kernel_rfl)
      have b50 : E46 2 = .flt .f32 wt := env_of st.inn hE 2 (by kernel_rfl)
      have b51 : E46 40 = .int .i64 (i45 : Int) := env_of st.inn hE 40 (by kernel_rfl)
      obtain ⟨w52, hw52⟩ : ∃ z, z = (IntKind.wrap .i64 ((i45 : Int) + 1)) := ⟨_, rfl⟩
      have b53 : E46 42 = .int .i64 w52 := by rw [hw52]; exact env_of st.inn hE 42 (by kernel_rfl)
      have b54 : E46 39 = acc45_0 := env_of st.inn hE 39 (by kernel_rfl)
      have b55 : E46 10 = .ptr p31 0 := env_of st.inn hE 10 (by kernel_rfl)
      have b56 : E46 11 = .int .i64 (i45 : Int) := env_of st.inn hE 11 (by kernel_rfl)
      have b57 : E46 1 = S := env_of st.inn hE 1 (by kernel_rfl)
      have b58 : E46 6 = .ptr p2 0 := env_of st.inn hE 6 (by kernel_rfl)
      have g59 : Grew Hi45 H46 := (st.kept.grew (Nat.le_of_ble_eq_true (by kernel_rfl)))
      have g60 : Grew H H46 := Grew.trans gt45 g59
      have r61 := g59.at r45_0
      have r62 := g59.at r45_1
      have s63 := s45_0.grew g59
      have s64 := so45_0.grew g59
      clear st hE vs ls
      have hlt65 : i45 < ms.length := by omega
      obtain ⟨lS65, cap65, rest65, wr65, eS65, gB65⟩ := hS.isSl hlt65
      have gS65 := g60.at gB65
      have ne66 : Apart p31 lS65 := ⟨Nat.ne_of_gt (Nat.lt_of_lt_of_le (H.lt_of_get gB65) op31)⟩
      have ne67 : Apart p2 lS65 := ⟨Nat.ne_of_gt (Nat.lt_of_lt_of_le (H.lt_of_get gB65) op2)⟩
      obtain ⟨v65_0, v65_1, v65_2, hm65, ho65_0, ho65_1, ho65_2⟩ := partsPose (hr.get hlt65)
      have he65 : ms.getD i45 [] = [.flt .f32 v65_0, .flt .f32 v65_1, .flt .f32 v65_2] := by rw [← hm65]; simp [List.getD_eq_getElem?_getD, hlt65]
      refine run_mn (φ := φ0) (pm := pmR 2 [(.ia 3 (.nd 0 .one) (.nd 8 (.int .i64)), .ptr 1 0)] 0) 20 (nk := [(.atom 0, .one), (.atom 1, .flt .f32), (.atom 2, .flt .f32), (.atom 3, .flt .f32), (.atom 4, .flt .f32), (.atom 5, .one), (.atom 6, .int .i64), (.atom 7, .bool), (.atom 8, .int .i64), (.atom 9, .one), (.atom 10, .int .i64), (.atom 11, .int .i64), (.atom 12, .flt .f32), (.atom 13, .flt .f32), (.atom 14, .flt .f32)]) (fs := []) (xs := [S, .flt .f32 s0, .flt .f32 s1, .flt .f32 s2, .flt .f32 wt, S13, .int .i64 (reckF [.flt .f32 s0, .flt .f32 s1, .flt .f32 s2] ms).2, .bool (sideB wt), .int .i64 (i45 : Int), acc45_0, .int .i64 (ms.length : Int), .int .i64 w52, .flt .f32 v65_0, .flt .f32 v65_1, .flt .f32 v65_2]) (ws := [⟨p31, 0, [.nd 5 .one, .nd 9 .one], false⟩, ⟨lS65, (i45 * 3), [.nd 12 (.flt .f32), .nd 13 (.flt .f32), .nd 14 (.flt .f32)], false⟩, ⟨p2, 0, [.lit .nilslice, .lit .nilslice], true⟩]) (env := [(43, .nd 0 .one), (44, .nd 8 (.int .i64)), (2, .nd 4 (.flt .f32)), (40, .nd 8 (.int .i64)), (42, .nd 11 (.int .i64)), (39, .nd 9 .one), (10, .ptr 0 0), (11, .nd 8 (.int .i64)), (1, .nd 0 .one), (6, .ptr 2 0)]) ?_ ?_ tb_ok ap_ok ?_
      · refine midN_in ?_ .nil _ ?_ ?_ ?_
        · exact (.cons rfl (slOne hS) (.cons rfl ⟨_, rfl, o0⟩ (.cons rfl ⟨_, rfl, o1⟩ (.cons rfl ⟨_, rfl, o2⟩ (.cons rfl ⟨_, rfl, hw⟩ (.cons rfl sS13.one (.cons rfl ⟨_, rfl⟩ (.cons rfl ⟨_, rfl⟩ (.cons rfl ⟨_, rfl⟩ (.cons rfl s45_0.one (.cons rfl ⟨_, rfl⟩ (.cons rfl ⟨_, rfl⟩ (.cons rfl ⟨_, rfl, ho65_0⟩ (.cons rfl ⟨_, rfl, ho65_1⟩ (.cons rfl ⟨_, rfl, ho65_2⟩ .nil)))))))))))))))
        · exact (.cons (win_row r61 (dlCons (dNd rfl sS13.one) (dlCons (dNd rfl s45_0.one) dlNil))) (.cons (win_elem hr gS65 hlt65 rfl (by rw [hm65]; exact (dlCons (dNd rfl ⟨_, rfl, ho65_0⟩) (dlCons (dNd rfl ⟨_, rfl, ho65_1⟩) (dlCons (dNd rfl ⟨_, rfl, ho65_2⟩) dlNil))))) (.cons (win_own r62 (dlCons (dLit rfl) (dlCons (dLit rfl) dlNil))) .nil)))
        · exact ⟨(fun v hv h => (by simp at hv; rcases hv with rfl | rfl <;> first | (simp at h; done) | exact Apart.ne (by assumption) | exact (Apart.ne (by assumption)).symm)), ⟨(fun v hv h => (by simp at hv; rcases hv with rfl <;> first | (simp at h; done) | exact Apart.ne (by assumption) | exact (Apart.ne (by assumption)).symm)), ⟨(fun v hv => (by cases hv)), trivial⟩⟩⟩
        · exact (.cons (rule_iaS (k := i45) (dNd rfl (slOne hS)) eS65 (dNd rfl ⟨_, rfl⟩) hlt65 rfl) .nil)
      · exact (envEq b48 (dNd rfl (slOne hS)) (envEq b49 (dNd rfl ⟨_, rfl⟩) (envEq b50 (dNd rfl ⟨_, rfl, hw⟩) (envEq b51 (dNd rfl ⟨_, rfl⟩) (envEq b53 (dNd rfl ⟨_, rfl⟩) (envEq b54 (dNd rfl s45_0.one) (envEq b55 (dPtr (l := p31) (o := 0) rfl) (envEq b56 (dNd rfl ⟨_, rfl⟩) (envEq b57 (dNd rfl (slOne hS)) (envEq b58 (dPtr (l := p2) (o := 0) rfl) envNil))))))))))
      refine all1 (by kernel_rfl) ?_
      intro vs ls H68 E68 st hE
      obtain ⟨p69, e70, r71, n72⟩ := sl_of st.inn hE 49 3 1 1 6 (by kernel_rfl) (ds := [.int .i64 (i45 : Int), .int .i64 w52, .flt .f32 v65_0, .flt .f32 v65_1, .flt .f32 v65_2, .flt .f32 wt]) (by kernel_rfl)
      have op69 : H.next ≤ p69 := Nat.le_trans g60.next (n72 (Nat.le_of_ble_eq_true rfl))
      have ne73 : Apart p69 p31 := ⟨Nat.ne_of_gt (Nat.lt_of_lt_of_le (H46.lt_of_get r61) (n72 (Nat.le_of_ble_eq_true rfl)))⟩
      have ne74 : Apart p69 p2 := ⟨Nat.ne_of_gt (Nat.lt_of_lt_of_le (H46.lt_of_get r62) (n72 (Nat.le_of_ble_eq_true rfl)))⟩
      have ne75 : ApartL (acc45_0) p69 := s63.apart_new (n72 (Nat.le_of_ble_eq_true rfl))
      have ne76 : ApartL (S13) p69 := s64.apart_new (n72 (Nat.le_of_ble_eq_true rfl))
      have b77 : E68 39 = acc45_0 := env_of st.inn hE 39 (by kernel_rfl)
      have b78 : E68 10 = .ptr p31 0 := env_of st.inn hE 10 (by kernel_rfl)
      have b79 : E68 11 = .int .i64 (i45 : Int) := env_of st.inn hE 11 (by kernel_rfl)
      have b80 : E68 1 = S := env_of st.inn hE 1 (by kernel_rfl)
      have b81 : E68 2 = .flt .f32 wt := env_of st.inn hE 2 (by kernel_rfl)
      have b82 : E68 6 = .ptr p2 0 := env_of st.inn hE 6 (by kernel_rfl)
      have g83 : Grew H46 H68 := (st.kept.grew (Nat.le_of_ble_eq_true (by kernel_rfl)))
      have g84 : Grew H H68 := Grew.trans g60 g83
      have r85 := g83.at r61
      have r87 := g83.at r62
      have s88 := s63.grew g83
      have s89 := s64.grew g83
      clear st hE vs ls
      refine res_appendK (free := true) (d := (some 50)) (sz := 6) (bytes := 32) (x := .tmp 39) (y := .tmp 49) (by kernel_rfl) (S := acc45_0) (ms := (chainK ms wt i45)) (ys := [[.int .i64 (i45 : Int), .int .i64 w52, .flt .f32 v65_0, .flt .f32 v65_1, .flt .f32 v65_2, .flt .f32 wt]]) (by show E68 39 = _; exact b77) s88 (chainK_recs hr hw (show i45 ≤ ms.length by omega)).len (by show srcCells _ _ (E68 49) = _; rw [e70]; exact src_one r71 rfl) (recs_one (ks := KL) (Recs.one (ks := KL) (.cons ⟨_, rfl⟩ (.cons ⟨_, rfl⟩ (.cons ⟨_, rfl, ho65_0⟩ (.cons ⟨_, rfl, ho65_1⟩ (.cons ⟨_, rfl, ho65_2⟩ (.cons ⟨_, rfl, hw⟩ .nil))))))) rfl) (by show (2 * ((chainK ms wt i45).length + 1) + 192) * 32 ≤ 281474976710656; omega) ?_
      intro S90 H91 sS90 fS90 oS90
      have ne92 : ApartL (S90) p31 := fS90.apartL (H68.lt_of_get r85) (by assumption)
      have ne93 : ApartL (S90) p69 := fS90.apartL (H68.lt_of_get r71) (by assumption)
      have ne94 : ApartL (S90) p2 := fS90.apartL (H68.lt_of_get r87) (by assumption)
      have ne95 : ApartS (S90) (S13) := fS90.apartS s89.lt (by first | assumption | exact ApartS.symm (by assumption))
      have fr96 : FreshS H.next (S90) := fS90.fresh f45_0 g84.next
      have g97 : Grew H H91 := OnlyS.own g84 f45_0 oS90
      have r98 := oS90.at r85 (by assumption)
      have r99 := oS90.at r71 (by assumption)
      have r100 := oS90.at r87 (by assumption)
      have s101 := s89.only oS90 (ApartS.symm (by first | assumption | exact ApartS.symm (by assumption)))
      refine ⟨.inl rfl, ?_⟩
      refine run_mn (φ := φ0) (pm := pmR 1 [] 0) 20 (nk := [(.atom 0, .one), (.atom 1, .flt .f32), (.atom 2, .flt .f32), (.atom 3, .flt .f32), (.atom 4, .flt .f32), (.atom 5, .one), (.atom 6, .int .i64), (.atom 7, .bool), (.atom 8, .int .i64), (.atom 9, .one), (.atom 10, .int .i64), (.atom 11, .int .i64), (.atom 12, .flt .f32), (.atom 13, .flt .f32), (.atom 14, .flt .f32), (.atom 15, .one)]) (fs := []) (xs := [S, .flt .f32 s0, .flt .f32 s1, .flt .f32 s2, .flt .f32 wt, S13, .int .i64 (reckF [.flt .f32 s0, .flt .f32 s1, .flt .f32 s2] ms).2, .bool (sideB wt), .int .i64 (i45 : Int), acc45_0, .int .i64 (ms.length : Int), .int .i64 w52, .flt .f32 v65_0, .flt .f32 v65_1, .flt .f32 v65_2, S90]) (ws := [⟨p69, 0, [.nd 8 (.int .i64), .nd 11 (.int .i64), .nd 12 (.flt .f32), .nd 13 (.flt .f32), .nd 14 (.flt .f32), .nd 4 (.flt .f32)], false⟩, ⟨p2, 0, [.lit .nilslice, .lit .nilslice], true⟩, ⟨p31, 0, [.nd 5 .one, .nd 9 .one], true⟩]) (env := [(39, .nd 9 .one), (49, .sl 0 0 1 1 6), (10, .ptr 2 0), (11, .nd 8 (.int .i64)), (1, .nd 0 .one), (2, .nd 4 (.flt .f32)), (6, .ptr 1 0), (50, .nd 15 .one)]) ?_ ?_ tb_ok ap_ok ?_
      · refine midN_in ?_ .nil _ ?_ ?_ ?_
        · exact (.cons rfl (slOne hS) (.cons rfl ⟨_, rfl, o0⟩ (.cons rfl ⟨_, rfl, o1⟩ (.cons rfl ⟨_, rfl, o2⟩ (.cons rfl ⟨_, rfl, hw⟩ (.cons rfl sS13.one (.cons rfl ⟨_, rfl⟩ (.cons rfl ⟨_, rfl⟩ (.cons rfl ⟨_, rfl⟩ (.cons rfl s45_0.one (.cons rfl ⟨_, rfl⟩ (.cons rfl ⟨_, rfl⟩ (.cons rfl ⟨_, rfl, ho65_0⟩ (.cons rfl ⟨_, rfl, ho65_1⟩ (.cons rfl ⟨_, rfl, ho65_2⟩ (.cons rfl sS90.one .nil))))))))))))))))
        · exact (.cons (win_row r99 (dlCons (dNd rfl ⟨_, rfl⟩) (dlCons (dNd rfl ⟨_, rfl⟩) (dlCons (dNd rfl ⟨_, rfl, ho65_0⟩) (dlCons (dNd rfl ⟨_, rfl, ho65_1⟩) (dlCons (dNd rfl ⟨_, rfl, ho65_2⟩) (dlCons (dNd rfl ⟨_, rfl, hw⟩) dlNil))))))) (.cons (win_own r100 (dlCons (dLit rfl) (dlCons (dLit rfl) dlNil))) (.cons (win_own r98 (dlCons (dNd rfl sS13.one) (dlCons (dNd rfl s45_0.one) dlNil))) .nil)))
        · exact ⟨(fun v hv h => (by simp at hv; rcases hv with rfl | rfl <;> first | (simp at h; done) | exact Apart.ne (by assumption) | exact (Apart.ne (by assumption)).symm)), ⟨(fun v hv h => (by simp at hv; rcases hv with rfl <;> first | (simp at h; done) | exact Apart.ne (by assumption) | exact (Apart.ne (by assumption)).symm)), ⟨(fun v hv => (by cases hv)), trivial⟩⟩⟩
        · exact .nil
      · exact (envEq (put_ne rfl b77) (dNd rfl s45_0.one) (envEq (put_ne rfl e70) (dSl' (l := p69) (o := 0) rfl) (envEq (put_ne rfl b78) (dPtr (l := p31) (o := 0) rfl) (envEq (put_ne rfl b79) (dNd rfl ⟨_, rfl⟩) (envEq (put_ne rfl b80) (dNd rfl (slOne hS)) (envEq (put_ne rfl b81) (dNd rfl ⟨_, rfl, hw⟩) (envEq (put_ne rfl b82) (dPtr (l := p2) (o := 0) rfl) (envEq put_same (dNd rfl sS90.one) envNil))))))))
      refine all1 (by kernel_rfl) ?_
      intro vs ls H102 E102 st hE
      have r103 : H102.get p2 = some (.row [.nilslice, .nilslice] true) := row_whole st.inn 1 (l := p2) (b := 0) rfl (by kernel_rfl)
      have r104 : H102.get p31 = some (.row [S13, S90] true) := row_whole st.inn 2 (l := p31) (b := 0) rfl (by kernel_rfl)
      obtain ⟨w105, hw105⟩ : ∃ z, z = (IntKind.wrap .i64 ((i45 : Int) + 1)) := ⟨_, rfl⟩
      have b106 : E102 11 = .int .i64 w105 := by rw [hw105]; exact env_of st.inn hE 11 (by kernel_rfl)
      have b107 : E102 1 = S := env_of st.inn hE 1 (by kernel_rfl)
      have b108 : E102 10 = .ptr p31 0 := env_of st.inn hE 10 (by kernel_rfl)
      have b109 : E102 2 = .flt .f32 wt := env_of st.inn hE 2 (by kernel_rfl)
      have b110 : E102 6 = .ptr p2 0 := env_of st.inn hE 6 (by kernel_rfl)
      have g112 : Grew H H102 := grew_own g97 st.inn.kept ⟨op2, ⟨op31, trivial⟩⟩
      have r113 := kept_at st.inn.kept r99 ⟨by first | assumption | exact Apart.symm (by assumption), ⟨by first | assumption | exact Apart.symm (by assumption), trivial⟩⟩
      have s114 := s101.keep st.inn.kept ⟨by assumption, ⟨by assumption, trivial⟩⟩
      have s115 := sS90.keep st.inn.kept ⟨by assumption, ⟨by assumption, trivial⟩⟩
      clear st hE vs ls
      have hz9 : z45 - 1 < z45 := by omega
      have hy9 : z45 - 1 + (i45 + 1) = ms.length := by omega
      have hi9 : E102 11 = .int .i64 ((i45 + 1 : Nat) : Int) := by rw [b106, hw105, wrap64 (by omega)]
      have hs9 : chainK ms wt (i45 + 1) = ((chainK ms wt i45) ++ [[.int .i64 (i45 : Int), .int .i64 w52, .flt .f32 v65_0, .flt .f32 v65_1, .flt .f32 v65_2, .flt .f32 wt]]) := by
        rw [chainK_succ]; unfold chainL; rw [he65]
        simp only [hw52, hw105, wrap64 (show i45 < 4611686018427387904 by omega)]; rfl
      exact res_norm (by kernel_rfl) ⟨z45 - 1, hz9, i45 + 1, S90, hy9, b107, b108, b109, b110, hi9, g112, r104, r103, (by rw [hs9]; exact s115), fr96, (by assumption), (by assumption), (by first | assumption | exact ApartS.symm (by assumption)), s114⟩
    ·
      intro vs ls H116 E116 st hE
      have f117 : ¬ ((i45 : Int) < (ms.length : Int)) := of_decide_eq_false (bfact (x := decide ((i45 : Int) < (ms.length : Int))) st.inn 0 (by kernel_rfl))
      have b118 : E116 11 = .int .i64 (i45 : Int) := env_of st.inn hE 11 (by kernel_rfl)
      have b119 : E116 1 = S := env_of st.inn hE 1 (by kernel_rfl)
      have b120 : E116 33 = S := env_of st.inn hE 33 (by kernel_rfl)
      have b121 : E116 32 = .int .i64 (i45 : Int) := env_of st.inn hE 32 (by kernel_rfl)
      have b122 : E116 34 = .int .i64 (ms.length : Int) := env_of st.inn hE 34 (by kernel_rfl)
      obtain ⟨w123, hw123⟩ : ∃ z, z = (decide ((i45 : Int) < (ms.length : Int))) := ⟨_, rfl⟩
      have b124 : E116 35 = .bool w123 := by rw [hw123]; exact env_of st.inn hE 35 (by kernel_rfl)
      have b125 : E116 10 = .ptr p31 0 := env_of st.inn hE 10 (by kernel_rfl)
      have b126 : E116 2 = .flt .f32 wt := env_of st.inn hE 2 (by kernel_rfl)
      have b127 : E116 6 = .ptr p2 0 := env_of st.inn hE 6 (by kernel_rfl)
      have g128 : Grew Hi45 H116 := (st.kept.grew (Nat.le_of_ble_eq_true (by kernel_rfl)))
      have g129 : Grew H H116 := Grew.trans gt45 g128
      have r130 := g128.at r45_0
      have r131 := g128.at r45_1
      have s132 := s45_0.grew g128
      have s133 := so45_0.grew g128
      clear st hE vs ls
      refine res_exit (id := 0) (by kernel_rfl) ?_
      refine run_mn (φ := φ0) (pm := pmR 1 [] 0) 20 (nk := [(.atom 0, .one), (.atom 1, .flt .f32), (.atom 2, .flt .f32), (.atom 3, .flt .f32), (.atom 4, .flt .f32), (.atom 5, .one), (.atom 6, .int .i64), (.atom 7, .bool), (.atom 8, .int .i64), (.atom 9, .one), (.atom 10, .int .i64), (.atom 11, .bool)]) (fs := []) (xs := [S, .flt .f32 s0, .flt .f32 s1, .flt .f32 s2, .flt .f32 wt, S13, .int .i64 (reckF [.flt .f32 s0, .flt .f32 s1, .flt .f32 s2] ms).2, .bool (sideB wt), .int .i64 (i45 : Int), acc45_0, .int .i64 (ms.length : Int), .bool w123]) (ws := [⟨p31, 0, [.nd 5 .one, .nd 9 .one], false⟩, ⟨p2, 0, [.lit .nilslice, .lit .nilslice], true⟩]) (env := [(11, .nd 8 (.int .i64)), (1, .nd 0 .one), (33, .nd 0 .one), (32, .nd 8 (.int .i64)), (34, .nd 10 (.int .i64)), (35, .nd 11 .bool), (10, .ptr 0 0), (2, .nd 4 (.flt .f32)), (6, .ptr 1 0)]) ?_ ?_ tb_ok ap_ok ?_
      · refine midN_in ?_ .nil _ ?_ ?_ ?_
        · exact (.cons rfl (slOne hS) (.cons rfl ⟨_, rfl, o0⟩ (.cons rfl ⟨_, rfl, o1⟩ (.cons rfl ⟨_, rfl, o2⟩ (.cons rfl ⟨_, rfl, hw⟩ (.cons rfl sS13.one (.cons rfl ⟨_, rfl⟩ (.cons rfl ⟨_, rfl⟩ (.cons rfl ⟨_, rfl⟩ (.cons rfl s45_0.one (.cons rfl ⟨_, rfl⟩ (.cons rfl ⟨_, rfl⟩ .nil))))))))))))
        · exact (.cons (win_row r130 (dlCons (dNd rfl sS13.one) (dlCons (dNd rfl s45_0.one) dlNil))) (.cons (win_own r131 (dlCons (dLit rfl) (dlCons (dLit rfl) dlNil))) .nil))
        · exact ⟨(fun v hv h => (by simp at hv; rcases hv with rfl <;> first | (simp at h; done) | exact Apart.ne (by assumption) | exact (Apart.ne (by assumption)).symm)), ⟨(fun v hv => (by cases hv)), trivial⟩⟩
        · exact .nil
      · exact (envEq b118 (dNd rfl ⟨_, rfl⟩) (envEq b119 (dNd rfl (slOne hS)) (envEq b120 (dNd rfl (slOne hS)) (envEq b121 (dNd rfl ⟨_, rfl⟩) (envEq b122 (dNd rfl ⟨_, rfl⟩) (envEq b124 (dNd rfl ⟨_, rfl⟩) (envEq b125 (dPtr (l := p31) (o := 0) rfl) (envEq b126 (dNd rfl ⟨_, rfl, hw⟩) (envEq b127 (dPtr (l := p2) (o := 0) rfl) envNil)))))))))
      refine all1 (by kernel_rfl) ?_
      intro vs ls H134 E134 st hE
      have gz : Grew H H134 := (grew_own g129 (st.inn.kept) ⟨op2, trivial⟩)
      have hin : ms.length = i45 := by omega
      have hc : chainF [.flt .f32 s0, .flt .f32 s1, .flt .f32 s2] ms wt = ((reckF [.flt .f32 s0, .flt .f32 s1, .flt .f32 s2] ms).1, chainK ms wt ms.length, 0) := by
        unfold chainF
        rw [if_pos f29]
        rw [if_pos (by omega)]
      exact res_ex (by kernel_rfl) (end_same st.inn hE (.inr rfl) (a := .tuple [.agg [S13, acc45_0], .int .i64 0]) (by kernel_rfl) gz.next (by rw [hc]; exact ⟨gz, _, _, rfl, (s133.keep st.inn.kept ⟨by assumption, trivial⟩), fr15, (by rw [hin]; exact ((s132.keep st.inn.kept ⟨by assumption, trivial⟩)).toW), f45_0, (by first | assumption | exact ApartS.symm (by assumption))⟩))
end Go.Proofs.Ytcmoeocemmeofaa
