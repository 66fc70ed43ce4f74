/- Contracts: the worst link, by both; its law. -/
import Derived.Test.YtcmoeocemmeofaaTResD
import Derived.Test.YtcmoeocemmeofaaTGraphW
set_option linter.unusedVariables false
set_option linter.unusedSimpArgs false
namespace Go.Proofs.Ytcmoeocemmeofaa
open Go.Ab
set_option maxRecDepth 100000
set_option maxHeartbeats 1000000
attribute [local irreducible] Res
def worstS (s : Int × Option Nat) (i : Nat) (a : Option Nat) : Int × Option Nat := if ((ford .f32 s.2 a == some .lt) || (!(ford .f32 s.2 s.2 == some .eq) && (ford .f32 a a == some .eq))) = true then ((i : Int), a) else s
noncomputable def worstF (ms ks : List (List AV)) : Nat → Int × Option Nat
  | 0 => (0, sqF ms (ks.getD 0 []))
  | i + 1 => worstS (worstF ms ks i) i (sqF ms (ks.getD i []))
theorem worstF_ok (ms ks : List (List AV)) : ∀ i, fOk .f32 (worstF ms ks i).2
  | 0 => sqF_ok _ _
  | i + 1 => by
    unfold worstF worstS
    split
    · exact sqF_ok _ _
    · exact worstF_ok ms ks i
theorem worstF_one (ms ks : List (List AV)) : worstF ms ks 1 = (0, sqF ms (ks.getD 0 [])) := by
  show worstS (0, sqF ms (ks.getD 0 [])) 0 (sqF ms (ks.getD 0 [])) = _
  unfold worstS
  split
  · rfl
  · rfl
noncomputable def worstG (ms ks : List (List AV)) : Int × Int := if okG ms ks = true then (if ks.length = 0 then (0, 6) else ((worstF ms ks ks.length).1, 0)) else (0, 1)
theorem k_impl_WorstLink (H : AHeap) (ms : List (List AV)) (hr : Recs KP ms) (S : AV) (hS : SlL H 3 ms S) (hmx : ms.length < 2 ^ 40) (ks : List (List AV)) (hrk : Recs KL ks) (Sk : AV) (hSk : SlL H 6 ks Sk) (hmxk : ks.length < 2 ^ 40) : APure Try.prog 35 [.agg [S, Sk]] H (.tuple [.int .i64 (worstG ms ks).1, .int .i64 (worstG ms ks).2]) := by
  refine res_start h_impl_WorstLink (by simp) ?_
  refine run_mn (φ := φ0) (pm := pmR 0 [(.call 64 [.agg [.nd 0 .one, .nd 1 .one]], .nd 2 .bool), (.len (.nd 1 .one), .nd 3 (.int .i64))] 0) 20 (nk := [(.atom 0, .one), (.atom 1, .one), (.atom 2, .bool), (.atom 3, .int .i64)]) (fs := []) (xs := [S, Sk, .bool (okG ms ks), .int .i64 (ks.length : Int)]) (ws := []) (env := [(0, .agg [.nd 0 .one, .nd 1 .one])]) ?_ ?_ tb_ok ap_ok ?_
  · refine midN_in ?_ .nil _ ?_ ?_ ?_
    · exact (.cons rfl (slOne hS) (.cons rfl (slOne hSk) (.cons rfl ⟨_, rfl⟩ (.cons rfl ⟨_, rfl⟩ .nil))))
    · exact .nil
    · exact sepOk_ro rfl
    · exact (.cons (rule_call (args := [.agg [S, Sk]]) (dlCons (dAgg (dlCons (dNd rfl (slOne hS)) (dlCons (dNd rfl (slOne hSk)) dlNil))) dlNil) (dNd rfl ⟨_, rfl⟩) (fun H9 hk => k_impl_ValidGraph H9 ms hr S (hS.grew (Grew.trans (Grew.refl _) (hk.grew (Nat.le_refl _)))) hmx ks hrk Sk (hSk.grew (Grew.trans (Grew.refl _) (hk.grew (Nat.le_refl _)))) hmxk)) (.cons (⟨_, _, (dNd rfl (slOne hSk)), (dNd rfl ⟨_, rfl⟩), slLen hSk⟩) .nil))
  · exact (envEq rfl (dAgg (dlCons (dNd rfl (slOne hS)) (dlCons (dNd rfl (slOne hSk)) dlNil))) envNil)
  refine all3 (by kernel_rfl) ?_ ?_ ?_
  ·
    intro vs ls H1 E1 st hE
    have f2 : (okG ms ks) = false := bfact st.inn 0 (by kernel_rfl)
    refine res_ex (by kernel_rfl) (end_flat st.inn hE (.inr rfl) (a := .tuple [.int .i64 0, .int .i64 1]) (by kernel_rfl) (Grew.trans (Grew.refl _) (st.kept.grew (Nat.le_of_ble_eq_true (by kernel_rfl)))) rfl ⟨?_, rfl⟩)
    unfold worstG; rw [if_neg (by rw [f2]; decide)]
  ·
    intro vs ls H3 E3 st hE
    have f4 : (ks.length : Int) = 0 := of_decide_eq_true (bfact (x := decide ((ks.length : Int) = 0)) st.inn 0 (by kernel_rfl))
    have f5 : (okG ms ks) = true := bfact st.inn 1 (by kernel_rfl)
    have hok := f5
    have hlen := okG_len f5
    refine res_ex (by kernel_rfl) (end_flat st.inn hE (.inr rfl) (a := .tuple [.int .i64 0, .int .i64 6]) (by kernel_rfl) (Grew.trans (Grew.refl _) (st.kept.grew (Nat.le_of_ble_eq_true (by kernel_rfl)))) rfl ⟨?_, rfl⟩)
    unfold worstG; rw [if_pos f5, if_pos (by omega)]
  ·
    intro vs ls H6 E6 st hE
    have f7 : ¬ ((ks.length : Int) = 0) := of_decide_eq_false (bfact (x := decide ((ks.length : Int) = 0)) st.inn 0 (by kernel_rfl))
    have f8 : (okG ms ks) = true := bfact st.inn 1 (by kernel_rfl)
    have hok := f8
    have hlen := okG_len f8
    obtain ⟨p9, e10, r11, n12⟩ := ptr_of st.inn hE 1 0 (by kernel_rfl) (ds := [S, Sk]) (by kernel_rfl)
    have op9 : H.next ≤ p9 := Nat.le_trans (Nat.le_refl _) (n12 (Nat.le_of_ble_eq_true rfl))
    have b13 : E6 20 = Sk := env_of st.inn hE 20 (by kernel_rfl)
    have b14 : E6 18 = .agg [S, Sk] := env_of st.inn hE 18 (by kernel_rfl)
    have g15 : Grew H H6 := (st.kept.grew (Nat.le_of_ble_eq_true (by kernel_rfl)))
    have g16 : Grew H H6 := Grew.trans (Grew.refl _) g15
    clear st hE vs ls
    have hlt17 : 0 < ks.length := by omega
    obtain ⟨lS17, cap17, rest17, wr17, eS17, gB17⟩ := hSk.isSl hlt17
    have gS17 := g16.at gB17
    have ne18 : Apart p9 lS17 := ⟨Nat.ne_of_gt (Nat.lt_of_lt_of_le (H.lt_of_get gB17) op9)⟩
    obtain ⟨v17_0, v17_1, v17_2, v17_3, v17_4, v17_5, hm17, ho17_2, ho17_3, ho17_4, ho17_5, ha17, hb17, hne17⟩ := okG_link hok hrk 0 hlt17
    have he17 : ks.getD 0 [] = [.int .i64 (v17_0 : Int), .int .i64 (v17_1 : Int), .flt .f32 v17_2, .flt .f32 v17_3, .flt .f32 v17_4, .flt .f32 v17_5] := by rw [← hm17]; simp [List.getD_eq_getElem?_getD, hlt17]
    refine run_mn (φ := φ0) (pm := pmR 2 [(.ia 6 (.nd 1 .one) (.lit (.int .i64 0)), .ptr 1 0), (.call 70 [.agg [.nd 0 .one, .nd 1 .one], .agg [.nd 4 (.int .i64), .nd 5 (.int .i64), .nd 6 (.flt .f32), .nd 7 (.flt .f32), .nd 8 (.flt .f32), .nd 9 (.flt .f32)]], .nd 10 (.flt .f32)), (.len (.nd 1 .one), .nd 11 (.int .i64))] 0) 20 (nk := [(.atom 0, .one), (.atom 1, .one), (.atom 2, .bool), (.atom 3, .int .i64), (.atom 4, .int .i64), (.atom 5, .int .i64), (.atom 6, .flt .f32), (.atom 7, .flt .f32), (.atom 8, .flt .f32), (.atom 9, .flt .f32), (.atom 10, .flt .f32), (.atom 11, .int .i64)]) (fs := []) (xs := [S, Sk, .bool (okG ms ks), .int .i64 (ks.length : Int), .int .i64 (v17_0 : Int), .int .i64 (v17_1 : Int), .flt .f32 v17_2, .flt .f32 v17_3, .flt .f32 v17_4, .flt .f32 v17_5, .flt .f32 (sqF ms [.int .i64 (v17_0 : Int), .int .i64 (v17_1 : Int), .flt .f32 v17_2, .flt .f32 v17_3, .flt .f32 v17_4, .flt .f32 v17_5]), .int .i64 (ks.length : Int)]) (ws := [⟨p9, 0, [.nd 0 .one, .nd 1 .one], false⟩, ⟨lS17, (0 * 6), [.nd 4 (.int .i64), .nd 5 (.int .i64), .nd 6 (.flt .f32), .nd 7 (.flt .f32), .nd 8 (.flt .f32), .nd 9 (.flt .f32)], false⟩]) (env := [(20, .nd 1 .one), (18, .agg [.nd 0 .one, .nd 1 .one]), (1, .ptr 0 0)]) ?_ ?_ tb_ok ap_ok ?_
    · refine midN_in ?_ .nil _ ?_ ?_ ?_
      · exact (.cons rfl (slOne hS) (.cons rfl (slOne hSk) (.cons rfl ⟨_, rfl⟩ (.cons rfl ⟨_, rfl⟩ (.cons rfl ⟨_, rfl⟩ (.cons rfl ⟨_, rfl⟩ (.cons rfl ⟨_, rfl, ho17_2⟩ (.cons rfl ⟨_, rfl, ho17_3⟩ (.cons rfl ⟨_, rfl, ho17_4⟩ (.cons rfl ⟨_, rfl, ho17_5⟩ (.cons rfl ⟨_, rfl, sqF_ok ms [.int .i64 (v17_0 : Int), .int .i64 (v17_1 : Int), .flt .f32 v17_2, .flt .f32 v17_3, .flt .f32 v17_4, .flt .f32 v17_5]⟩ (.cons rfl ⟨_, rfl⟩ .nil))))))))))))
      · exact (.cons (win_row r11 (dlCons (dNd rfl (slOne hS)) (dlCons (dNd rfl (slOne hSk)) dlNil))) (.cons (win_elem hrk gS17 hlt17 rfl (by rw [hm17]; exact (dlCons (dNd rfl ⟨_, rfl⟩) (dlCons (dNd rfl ⟨_, rfl⟩) (dlCons (dNd rfl ⟨_, rfl, ho17_2⟩) (dlCons (dNd rfl ⟨_, rfl, ho17_3⟩) (dlCons (dNd rfl ⟨_, rfl, ho17_4⟩) (dlCons (dNd rfl ⟨_, rfl, ho17_5⟩) dlNil)))))))) .nil))
      · exact sepOk_ro rfl
      · exact (.cons (rule_iaS (k := 0) (dNd rfl (slOne hSk)) eS17 (dLit rfl) hlt17 rfl) (.cons (rule_call (args := [.agg [S, Sk], .agg [.int .i64 (v17_0 : Int), .int .i64 (v17_1 : Int), .flt .f32 v17_2, .flt .f32 v17_3, .flt .f32 v17_4, .flt .f32 v17_5]]) (dlCons (dAgg (dlCons (dNd rfl (slOne hS)) (dlCons (dNd rfl (slOne hSk)) dlNil))) (dlCons (dAgg (dlCons (dNd rfl ⟨_, rfl⟩) (dlCons (dNd rfl ⟨_, rfl⟩) (dlCons (dNd rfl ⟨_, rfl, ho17_2⟩) (dlCons (dNd rfl ⟨_, rfl, ho17_3⟩) (dlCons (dNd rfl ⟨_, rfl, ho17_4⟩) (dlCons (dNd rfl ⟨_, rfl, ho17_5⟩) dlNil))))))) dlNil)) (dNd rfl ⟨_, rfl, sqF_ok ms [.int .i64 (v17_0 : Int), .int .i64 (v17_1 : Int), .flt .f32 v17_2, .flt .f32 v17_3, .flt .f32 v17_4, .flt .f32 v17_5]⟩) (fun H9 hk => k_costOfLink H9 ms hr S (hS.grew (Grew.trans g16 (hk.grew (Nat.le_refl _)))) hmx Sk (slOne hSk) v17_0 v17_1 ha17 hb17 v17_2 v17_3 v17_4 v17_5 ho17_2 ho17_3 ho17_4 ho17_5)) (.cons (⟨_, _, (dNd rfl (slOne hSk)), (dNd rfl ⟨_, rfl⟩), slLen hSk⟩) .nil)))
    · exact (envEq b13 (dNd rfl (slOne hSk)) (envEq b14 (dAgg (dlCons (dNd rfl (slOne hS)) (dlCons (dNd rfl (slOne hSk)) dlNil))) (envEq e10 (dPtr (l := p9) (o := 0) rfl) envNil)))
    refine all1 (by kernel_rfl) ?_
    intro vs ls H19 E19 st hE
    have b20 : E19 27 = .int .i64 0 := env_of st.inn hE 27 (by kernel_rfl)
    have b21 : E19 26 = .int .i64 (ks.length : Int) := env_of st.inn hE 26 (by kernel_rfl)
    have b22 : E19 25 = Sk := env_of st.inn hE 25 (by kernel_rfl)
    have b23 : E19 1 = .ptr p9 0 := env_of st.inn hE 1 (by kernel_rfl)
    have b24 : E19 5 = .flt .f32 (sqF ms [.int .i64 (v17_0 : Int), .int .i64 (v17_1 : Int), .flt .f32 v17_2, .flt .f32 v17_3, .flt .f32 v17_4, .flt .f32 v17_5]) := env_of st.inn hE 5 (by kernel_rfl)
    have b25 : E19 4 = .int .i64 0 := env_of st.inn hE 4 (by kernel_rfl)
    have g26 : Grew H6 H19 := (st.kept.grew (Nat.le_of_ble_eq_true (by kernel_rfl)))
    have g27 : Grew H H19 := Grew.trans g16 g26
    have r28 := g26.at r11
    clear st hE vs ls
    have hw30 : worstF ms ks 0 = (0, sqF ms [.int .i64 (v17_0 : Int), .int .i64 (v17_1 : Int), .flt .f32 v17_2, .flt .f32 v17_3, .flt .f32 v17_4, .flt .f32 v17_5]) := by rw [worstF, he17]
    refine res_scanv (by kernel_rfl) (fun i => [(26, .int .i64 (ks.length : Int)), (25, Sk), (1, .ptr p9 0), (5, .flt .f32 (worstF ms ks i).2), (4, .int .i64 (worstF ms ks i).1)]) 27 0 ks.length (fun i => True) (by omega) (.cons b21 (.cons b22 (.cons b23 (.cons (b24.trans (by rw [hw30])) (.cons (b25.trans (by rw [hw30])) .nil))))) b20 (Grew.refl _) trivial ?_
    intro i31 hoi31 hli31 hIi31 Ei31 Hi31 hsi31 hci31 hgi31
    have g32 : Grew H Hi31 := Grew.trans g27 hgi31
    have r33 := hgi31.at r28
    refine run_mn (φ := φ0) (pm := pmR 1 [] 0) 20 (nk := [(.atom 0, .one), (.atom 1, .one), (.atom 2, .bool), (.atom 3, .int .i64), (.atom 4, .int .i64), (.atom 5, .int .i64), (.atom 6, .flt .f32), (.atom 7, .flt .f32), (.atom 8, .flt .f32), (.atom 9, .flt .f32), (.atom 10, .flt .f32), (.atom 11, .int .i64), (.atom 12, .flt .f32), (.atom 13, .int .i64), (.atom 14, .int .i64)]) (fs := []) (xs := [S, Sk, .bool (okG ms ks), .int .i64 (ks.length : Int), .int .i64 (v17_0 : Int), .int .i64 (v17_1 : Int), .flt .f32 v17_2, .flt .f32 v17_3, .flt .f32 v17_4, .flt .f32 v17_5, .flt .f32 (sqF ms [.int .i64 (v17_0 : Int), .int .i64 (v17_1 : Int), .flt .f32 v17_2, .flt .f32 v17_3, .flt .f32 v17_4, .flt .f32 v17_5]), .int .i64 (ks.length : Int), .flt .f32 (worstF ms ks i31).2, .int .i64 (worstF ms ks i31).1, .int .i64 (i31 : Int)]) (ws := [⟨p9, 0, [.nd 0 .one, .nd 1 .one], false⟩]) (env := [(26, .nd 11 (.int .i64)), (25, .nd 1 .one), (1, .ptr 0 0), (5, .nd 12 (.flt .f32)), (4, .nd 13 (.int .i64)), (27, .nd 14 (.int .i64))]) ?_ ?_ tb_ok ap_ok ?_
    · refine midN_in ?_ .nil _ ?_ ?_ ?_
      · exact (.cons rfl (slOne hS) (.cons rfl (slOne hSk) (.cons rfl ⟨_, rfl⟩ (.cons rfl ⟨_, rfl⟩ (.cons rfl ⟨_, rfl⟩ (.cons rfl ⟨_, rfl⟩ (.cons rfl ⟨_, rfl, ho17_2⟩ (.cons rfl ⟨_, rfl, ho17_3⟩ (.cons rfl ⟨_, rfl, ho17_4⟩ (.cons rfl ⟨_, rfl, ho17_5⟩ (.cons rfl ⟨_, rfl, sqF_ok ms [.int .i64 (v17_0 : Int), .int .i64 (v17_1 : Int), .flt .f32 v17_2, .flt .f32 v17_3, .flt .f32 v17_4, .flt .f32 v17_5]⟩ (.cons rfl ⟨_, rfl⟩ (.cons rfl ⟨_, rfl, worstF_ok ms ks i31⟩ (.cons rfl ⟨_, rfl⟩ (.cons rfl ⟨_, rfl⟩ .nil)))))))))))))))
      · exact (.cons (win_row r33 (dlCons (dNd rfl (slOne hS)) (dlCons (dNd rfl (slOne hSk)) dlNil))) .nil)
      · exact sepOk_ro rfl
      · exact .nil
    · exact (envEq (hsi31.at 0 rfl) (dNd rfl ⟨_, rfl⟩) (envEq (hsi31.at 1 rfl) (dNd rfl (slOne hSk)) (envEq (hsi31.at 2 rfl) (dPtr (l := p9) (o := 0) rfl) (envEq (hsi31.at 3 rfl) (dNd rfl ⟨_, rfl, worstF_ok ms ks i31⟩) (envEq (hsi31.at 4 rfl) (dNd rfl ⟨_, rfl⟩) (envEq hci31 (dNd rfl ⟨_, rfl⟩) envNil))))))
    refine all2 (by kernel_rfl) ?_ ?_
    ·
      intro vs ls H34 E34 st hE
      have f35 : (i31 : Int) < (ks.length : Int) := of_decide_eq_true (bfact (x := decide ((i31 : Int) < (ks.length : Int))) st.inn 0 (by kernel_rfl))
      have b36 : E34 25 = Sk := env_of st.inn hE 25 (by kernel_rfl)
      have b37 : E34 27 = .int .i64 (i31 : Int) := env_of st.inn hE 27 (by kernel_rfl)
      have b38 : E34 29 = .int .i64 (i31 : Int) := env_of st.inn hE 29 (by kernel_rfl)
      have b39 : E34 1 = .ptr p9 0 := env_of st.inn hE 1 (by kernel_rfl)
      have b40 : E34 5 = .flt .f32 (worstF ms ks i31).2 := env_of st.inn hE 5 (by kernel_rfl)
      have b41 : E34 26 = .int .i64 (ks.length : Int) := env_of st.inn hE 26 (by kernel_rfl)
      have b42 : E34 4 = .int .i64 (worstF ms ks i31).1 := env_of st.inn hE 4 (by kernel_rfl)
      have g43 : Grew Hi31 H34 := (st.kept.grew (Nat.le_of_ble_eq_true (by kernel_rfl)))
      have g44 : Grew H H34 := Grew.trans g32 g43
      have g45 : Grew H19 H34 := Grew.trans hgi31 g43
      have r46 := g43.at r33
      clear st hE vs ls
      have hlt47 : i31 < ks.length := by omega
      obtain ⟨lS47, cap47, rest47, wr47, eS47, gB47⟩ := hSk.isSl hlt47
      have gS47 := g44.at gB47
      have ne48 : Apart p9 lS47 := ⟨Nat.ne_of_gt (Nat.lt_of_lt_of_le (H.lt_of_get gB47) op9)⟩
      obtain ⟨v47_0, v47_1, v47_2, v47_3, v47_4, v47_5, hm47, ho47_2, ho47_3, ho47_4, ho47_5, ha47, hb47, hne47⟩ := okG_link hok hrk i31 hlt47
      have he47 : ks.getD i31 [] = [.int .i64 (v47_0 : Int), .int .i64 (v47_1 : Int), .flt .f32 v47_2, .flt .f32 v47_3, .flt .f32 v47_4, .flt .f32 v47_5] := by rw [← hm47]; simp [List.getD_eq_getElem?_getD, hlt47]
      refine run_mn (φ := φ0) (pm := pmR 2 [(.ia 6 (.nd 1 .one) (.nd 14 (.int .i64)), .ptr 1 0), (.call 70 [.agg [.nd 0 .one, .nd 1 .one], .agg [.nd 15 (.int .i64), .nd 16 (.int .i64), .nd 17 (.flt .f32), .nd 18 (.flt .f32), .nd 19 (.flt .f32), .nd 20 (.flt .f32)]], .nd 21 (.flt .f32))] 0) 20 (nk := [(.atom 0, .one), (.atom 1, .one), (.atom 2, .bool), (.atom 3, .int .i64), (.atom 4, .int .i64), (.atom 5, .int .i64), (.atom 6, .flt .f32), (.atom 7, .flt .f32), (.atom 8, .flt .f32), (.atom 9, .flt .f32), (.atom 10, .flt .f32), (.atom 11, .int .i64), (.atom 12, .flt .f32), (.atom 13, .int .i64), (.atom 14, .int .i64), (.atom 15, .int .i64), (.atom 16, .int .i64), (.atom 17, .flt .f32), (.atom 18, .flt .f32), (.atom 19, .flt .f32), (.atom 20, .flt .f32), (.atom 21, .flt .f32)]) (fs := []) (xs := [S, Sk, .bool (okG ms ks), .int .i64 (ks.length : Int), .int .i64 (v17_0 : Int), .int .i64 (v17_1 : Int), .flt .f32 v17_2, .flt .f32 v17_3, .flt .f32 v17_4, .flt .f32 v17_5, .flt .f32 (sqF ms [.int .i64 (v17_0 : Int), .int .i64 (v17_1 : Int), .flt .f32 v17_2, .flt .f32 v17_3, .flt .f32 v17_4, .flt .f32 v17_5]), .int .i64 (ks.length : Int), .flt .f32 (worstF ms ks i31).2, .int .i64 (worstF ms ks i31).1, .int .i64 (i31 : Int), .int .i64 (v47_0 : Int), .int .i64 (v47_1 : Int), .flt .f32 v47_2, .flt .f32 v47_3, .flt .f32 v47_4, .flt .f32 v47_5, .flt .f32 (sqF ms [.int .i64 (v47_0 : Int), .int .i64 (v47_1 : Int), .flt .f32 v47_2, .flt .f32 v47_3, .flt .f32 v47_4, .flt .f32 v47_5])]) (ws := [⟨p9, 0, [.nd 0 .one, .nd 1 .one], false⟩, ⟨lS47, (i31 * 6), [.nd 15 (.int .i64), .nd 16 (.int .i64), .nd 17 (.flt .f32), .nd 18 (.flt .f32), .nd 19 (.flt .f32), .nd 20 (.flt .f32)], false⟩]) (env := [(25, .nd 1 .one), (27, .nd 14 (.int .i64)), (29, .nd 14 (.int .i64)), (1, .ptr 0 0), (5, .nd 12 (.flt .f32)), (26, .nd 11 (.int .i64)), (4, .nd 13 (.int .i64))]) ?_ ?_ tb_ok ap_ok ?_
      · refine midN_in ?_ .nil _ ?_ ?_ ?_
        · exact (.cons rfl (slOne hS) (.cons rfl (slOne hSk) (.cons rfl ⟨_, rfl⟩ (.cons rfl ⟨_, rfl⟩ (.cons rfl ⟨_, rfl⟩ (.cons rfl ⟨_, rfl⟩ (.cons rfl ⟨_, rfl, ho17_2⟩ (.cons rfl ⟨_, rfl, ho17_3⟩ (.cons rfl ⟨_, rfl, ho17_4⟩ (.cons rfl ⟨_, rfl, ho17_5⟩ (.cons rfl ⟨_, rfl, sqF_ok ms [.int .i64 (v17_0 : Int), .int .i64 (v17_1 : Int), .flt .f32 v17_2, .flt .f32 v17_3, .flt .f32 v17_4, .flt .f32 v17_5]⟩ (.cons rfl ⟨_, rfl⟩ (.cons rfl ⟨_, rfl, worstF_ok ms ks i31⟩ (.cons rfl ⟨_, rfl⟩ (.cons rfl ⟨_, rfl⟩ (.cons rfl ⟨_, rfl⟩ (.cons rfl ⟨_, rfl⟩ (.cons rfl ⟨_, rfl, ho47_2⟩ (.cons rfl ⟨_, rfl, ho47_3⟩ (.cons rfl ⟨_, rfl, ho47_4⟩ (.cons rfl ⟨_, rfl, ho47_5⟩ (.cons rfl ⟨_, rfl, sqF_ok ms [.int .i64 (v47_0 : Int), .int .i64 (v47_1 : Int), .flt .f32 v47_2, .flt .f32 v47_3, .flt .f32 v47_4, .flt .f32 v47_5]⟩ .nil))))))))))))))))))))))
        · exact (.cons (win_row r46 (dlCons (dNd rfl (slOne hS)) (dlCons (dNd rfl (slOne hSk)) dlNil))) (.cons (win_elem hrk gS47 hlt47 rfl (by rw [hm47]; exact (dlCons (dNd rfl ⟨_, rfl⟩) (dlCons (dNd rfl ⟨_, rfl⟩) (dlCons (dNd rfl ⟨_, rfl, ho47_2⟩) (dlCons (dNd rfl ⟨_, rfl, ho47_3⟩) (dlCons (dNd rfl ⟨_, rfl, ho47_4⟩) (dlCons (dNd rfl ⟨_, rfl, ho47_5⟩) dlNil)))))))) .nil))
        · exact sepOk_ro rfl
        · exact (.cons (rule_iaS (k := i31) (dNd rfl (slOne hSk)) eS47 (dNd rfl ⟨_, rfl⟩) hlt47 rfl) (.cons (rule_call (args := [.agg [S, Sk], .agg [.int .i64 (v47_0 : Int), .int .i64 (v47_1 : Int), .flt .f32 v47_2, .flt .f32 v47_3, .flt .f32 v47_4, .flt .f32 v47_5]]) (dlCons (dAgg (dlCons (dNd rfl (slOne hS)) (dlCons (dNd rfl (slOne hSk)) dlNil))) (dlCons (dAgg (dlCons (dNd rfl ⟨_, rfl⟩) (dlCons (dNd rfl ⟨_, rfl⟩) (dlCons (dNd rfl ⟨_, rfl, ho47_2⟩) (dlCons (dNd rfl ⟨_, rfl, ho47_3⟩) (dlCons (dNd rfl ⟨_, rfl, ho47_4⟩) (dlCons (dNd rfl ⟨_, rfl, ho47_5⟩) dlNil))))))) dlNil)) (dNd rfl ⟨_, rfl, sqF_ok ms [.int .i64 (v47_0 : Int), .int .i64 (v47_1 : Int), .flt .f32 v47_2, .flt .f32 v47_3, .flt .f32 v47_4, .flt .f32 v47_5]⟩) (fun H9 hk => k_costOfLink H9 ms hr S (hS.grew (Grew.trans g44 (hk.grew (Nat.le_refl _)))) hmx Sk (slOne hSk) v47_0 v47_1 ha47 hb47 v47_2 v47_3 v47_4 v47_5 ho47_2 ho47_3 ho47_4 ho47_5)) .nil))
      · exact (envEq b36 (dNd rfl (slOne hSk)) (envEq b37 (dNd rfl ⟨_, rfl⟩) (envEq b38 (dNd rfl ⟨_, rfl⟩) (envEq b39 (dPtr (l := p9) (o := 0) rfl) (envEq b40 (dNd rfl ⟨_, rfl, worstF_ok ms ks i31⟩) (envEq b41 (dNd rfl ⟨_, rfl⟩) (envEq b42 (dNd rfl ⟨_, rfl⟩) envNil)))))))
      refine all4 (by kernel_rfl) ?_ ?_ ?_ ?_
      ·
        intro vs ls H49 E49 st hE
        have f50 : (ford .f32 (worstF ms ks i31).2 (sqF ms [.int .i64 (v47_0 : Int), .int .i64 (v47_1 : Int), .flt .f32 v47_2, .flt .f32 v47_3, .flt .f32 v47_4, .flt .f32 v47_5]) == some .lt) = true := bfact st.inn 0 (by kernel_rfl)
        have hlti31 : i31 < ks.length := by omega
        refine res_nextv (sl := fun i => [(26, .int .i64 (ks.length : Int)), (25, Sk), (1, .ptr p9 0), (5, .flt .f32 (worstF ms ks i).2), (4, .int .i64 (worstF ms ks i).1)]) (sl' := [(26, .int .i64 (ks.length : Int)), (25, Sk), (1, .ptr p9 0), (5, .flt .f32 (sqF ms [.int .i64 (v47_0 : Int), .int .i64 (v47_1 : Int), .flt .f32 v47_2, .flt .f32 v47_3, .flt .f32 v47_4, .flt .f32 v47_5])), (4, .int .i64 (i31 : Int))]) (ti := 27) (i := i31) (Inv := fun i => True) (by kernel_rfl) st.inn hE hlti31 (by kernel_rfl) ?_ (w := (IntKind.wrap .i64 ((i31 : Int) + 1))) (by kernel_rfl) (wrap64 (by omega)) (Grew.trans g45 (st.kept.grew (Nat.le_of_ble_eq_true (by kernel_rfl)))) ?_
        have hn9 : worstF ms ks (i31 + 1) = (((i31 : Nat) : Int), (sqF ms [.int .i64 (v47_0 : Int), .int .i64 (v47_1 : Int), .flt .f32 v47_2, .flt .f32 v47_3, .flt .f32 v47_4, .flt .f32 v47_5])) := by
          show worstS _ _ _ = _; unfold worstS; rw [he47]; rw [if_pos (by simp [f50])]
        · show _ = [_, _, _, _, _]; simp only [hn9]
        trivial
      ·
        intro vs ls H51 E51 st hE
        have f52 : (ford .f32 (sqF ms [.int .i64 (v47_0 : Int), .int .i64 (v47_1 : Int), .flt .f32 v47_2, .flt .f32 v47_3, .flt .f32 v47_4, .flt .f32 v47_5]) (sqF ms [.int .i64 (v47_0 : Int), .int .i64 (v47_1 : Int), .flt .f32 v47_2, .flt .f32 v47_3, .flt .f32 v47_4, .flt .f32 v47_5]) == some .eq) = true := bfact st.inn 0 (by kernel_rfl)
        have f53 : (ford .f32 (worstF ms ks i31).2 (worstF ms ks i31).2 == some .eq) = false := bfact st.inn 1 (by kernel_rfl)
        have f54 : (ford .f32 (worstF ms ks i31).2 (sqF ms [.int .i64 (v47_0 : Int), .int .i64 (v47_1 : Int), .flt .f32 v47_2, .flt .f32 v47_3, .flt .f32 v47_4, .flt .f32 v47_5]) == some .lt) = false := bfact st.inn 2 (by kernel_rfl)
        have hlti31 : i31 < ks.length := by omega
        refine res_nextv (sl := fun i => [(26, .int .i64 (ks.length : Int)), (25, Sk), (1, .ptr p9 0), (5, .flt .f32 (worstF ms ks i).2), (4, .int .i64 (worstF ms ks i).1)]) (sl' := [(26, .int .i64 (ks.length : Int)), (25, Sk), (1, .ptr p9 0), (5, .flt .f32 (sqF ms [.int .i64 (v47_0 : Int), .int .i64 (v47_1 : Int), .flt .f32 v47_2, .flt .f32 v47_3, .flt .f32 v47_4, .flt .f32 v47_5])), (4, .int .i64 (i31 : Int))]) (ti := 27) (i := i31) (Inv := fun i => True) (by kernel_rfl) st.inn hE hlti31 (by kernel_rfl) ?_ (w := (IntKind.wrap .i64 ((i31 : Int) + 1))) (by kernel_rfl) (wrap64 (by omega)) (Grew.trans g45 (st.kept.grew (Nat.le_of_ble_eq_true (by kernel_rfl)))) ?_
        have hn9 : worstF ms ks (i31 + 1) = (((i31 : Nat) : Int), (sqF ms [.int .i64 (v47_0 : Int), .int .i64 (v47_1 : Int), .flt .f32 v47_2, .flt .f32 v47_3, .flt .f32 v47_4, .flt .f32 v47_5])) := by
          show worstS _ _ _ = _; unfold worstS; rw [he47]; rw [if_pos (by simp [f52, f53, f54])]
        · show _ = [_, _, _, _, _]; simp only [hn9]
        trivial
      ·
        intro vs ls H55 E55 st hE
        have f56 : (ford .f32 (sqF ms [.int .i64 (v47_0 : Int), .int .i64 (v47_1 : Int), .flt .f32 v47_2, .flt .f32 v47_3, .flt .f32 v47_4, .flt .f32 v47_5]) (sqF ms [.int .i64 (v47_0 : Int), .int .i64 (v47_1 : Int), .flt .f32 v47_2, .flt .f32 v47_3, .flt .f32 v47_4, .flt .f32 v47_5]) == some .eq) = false := bfact st.inn 0 (by kernel_rfl)
        have f57 : (ford .f32 (worstF ms ks i31).2 (worstF ms ks i31).2 == some .eq) = false := bfact st.inn 1 (by kernel_rfl)
        have f58 : (ford .f32 (worstF ms ks i31).2 (sqF ms [.int .i64 (v47_0 : Int), .int .i64 (v47_1 : Int), .flt .f32 v47_2, .flt .f32 v47_3, .flt .f32 v47_4, .flt .f32 v47_5]) == some .lt) = false := bfact st.inn 2 (by kernel_rfl)
        have hlti31 : i31 < ks.length := by omega
        refine res_nextv (sl := fun i => [(26, .int .i64 (ks.length : Int)), (25, Sk), (1, .ptr p9 0), (5, .flt .f32 (worstF ms ks i).2), (4, .int .i64 (worstF ms ks i).1)]) (sl' := [(26, .int .i64 (ks.length : Int)), (25, Sk), (1, .ptr p9 0), (5, .flt .f32 (worstF ms ks i31).2), (4, .int .i64 (worstF ms ks i31).1)]) (ti := 27) (i := i31) (Inv := fun i => True) (by kernel_rfl) st.inn hE hlti31 (by kernel_rfl) ?_ (w := (IntKind.wrap .i64 ((i31 : Int) + 1))) (by kernel_rfl) (wrap64 (by omega)) (Grew.trans g45 (st.kept.grew (Nat.le_of_ble_eq_true (by kernel_rfl)))) ?_
        have hn9 : worstF ms ks (i31 + 1) = ((worstF ms ks i31).1, (worstF ms ks i31).2) := by
          show worstS _ _ _ = _; unfold worstS; rw [he47]; rw [if_neg (by simp [f56, f57, f58])]
        · show _ = [_, _, _, _, _]; simp only [hn9]
        trivial
      ·
        intro vs ls H59 E59 st hE
        have f60 : (ford .f32 (worstF ms ks i31).2 (worstF ms ks i31).2 == some .eq) = true := bfact st.inn 0 (by kernel_rfl)
        have f61 : (ford .f32 (worstF ms ks i31).2 (sqF ms [.int .i64 (v47_0 : Int), .int .i64 (v47_1 : Int), .flt .f32 v47_2, .flt .f32 v47_3, .flt .f32 v47_4, .flt .f32 v47_5]) == some .lt) = false := bfact st.inn 1 (by kernel_rfl)
        have hlti31 : i31 < ks.length := by omega
        refine res_nextv (sl := fun i => [(26, .int .i64 (ks.length : Int)), (25, Sk), (1, .ptr p9 0), (5, .flt .f32 (worstF ms ks i).2), (4, .int .i64 (worstF ms ks i).1)]) (sl' := [(26, .int .i64 (ks.length : Int)), (25, Sk), (1, .ptr p9 0), (5, .flt .f32 (worstF ms ks i31).2), (4, .int .i64 (worstF ms ks i31).1)]) (ti := 27) (i := i31) (Inv := fun i => True) (by kernel_rfl) st.inn hE hlti31 (by kernel_rfl) ?_ (w := (IntKind.wrap .i64 ((i31 : Int) + 1))) (by kernel_rfl) (wrap64 (by omega)) (Grew.trans g45 (st.kept.grew (Nat.le_of_ble_eq_true (by kernel_rfl)))) ?_
        have hn9 : worstF ms ks (i31 + 1) = ((worstF ms ks i31).1, (worstF ms ks i31).2) := by
          show worstS _ _ _ = _; unfold worstS; rw [he47]; rw [if_neg (by simp [f60, f61])]
        · show _ = [_, _, _, _, _]; simp only [hn9]
        trivial
    ·
      intro vs ls H62 E62 st hE
      have f63 : ¬ ((i31 : Int) < (ks.length : Int)) := of_decide_eq_false (bfact (x := decide ((i31 : Int) < (ks.length : Int))) st.inn 0 (by kernel_rfl))
      have b64 : E62 27 = .int .i64 (i31 : Int) := env_of st.inn hE 27 (by kernel_rfl)
      have b65 : E62 26 = .int .i64 (ks.length : Int) := env_of st.inn hE 26 (by kernel_rfl)
      obtain ⟨w66, hw66⟩ : ∃ z, z = (decide ((i31 : Int) < (ks.length : Int))) := ⟨_, rfl⟩
      have b67 : E62 28 = .bool w66 := by rw [hw66]; exact env_of st.inn hE 28 (by kernel_rfl)
      have b68 : E62 25 = Sk := env_of st.inn hE 25 (by kernel_rfl)
      have b69 : E62 1 = .ptr p9 0 := env_of st.inn hE 1 (by kernel_rfl)
      have b70 : E62 5 = .flt .f32 (worstF ms ks i31).2 := env_of st.inn hE 5 (by kernel_rfl)
      have b71 : E62 4 = .int .i64 (worstF ms ks i31).1 := env_of st.inn hE 4 (by kernel_rfl)
      have g72 : Grew Hi31 H62 := (st.kept.grew (Nat.le_of_ble_eq_true (by kernel_rfl)))
      have g73 : Grew H H62 := Grew.trans g32 g72
      have g74 : Grew H19 H62 := Grew.trans hgi31 g72
      have r75 := g72.at r33
      clear st hE vs ls
      refine res_exit (id := 1) (by kernel_rfl) ?_
      refine run_mn (φ := φ0) (pm := pmR 1 [] 0) 20 (nk := [(.atom 0, .one), (.atom 1, .one), (.atom 2, .bool), (.atom 3, .int .i64), (.atom 4, .int .i64), (.atom 5, .int .i64), (.atom 6, .flt .f32), (.atom 7, .flt .f32), (.atom 8, .flt .f32), (.atom 9, .flt .f32), (.atom 10, .flt .f32), (.atom 11, .int .i64), (.atom 12, .flt .f32), (.atom 13, .int .i64), (.atom 14, .int .i64), (.atom 15, .bool)]) (fs := []) (xs := [S, Sk, .bool (okG ms ks), .int .i64 (ks.length : Int), .int .i64 (v17_0 : Int), .int .i64 (v17_1 : Int), .flt .f32 v17_2, .flt .f32 v17_3, .flt .f32 v17_4, .flt .f32 v17_5, .flt .f32 (sqF ms [.int .i64 (v17_0 : Int), .int .i64 (v17_1 : Int), .flt .f32 v17_2, .flt .f32 v17_3, .flt .f32 v17_4, .flt .f32 v17_5]), .int .i64 (ks.length : Int), .flt .f32 (worstF ms ks i31).2, .int .i64 (worstF ms ks i31).1, .int .i64 (i31 : Int), .bool w66]) (ws := [⟨p9, 0, [.nd 0 .one, .nd 1 .one], false⟩]) (env := [(27, .nd 14 (.int .i64)), (26, .nd 11 (.int .i64)), (28, .nd 15 .bool), (25, .nd 1 .one), (1, .ptr 0 0), (5, .nd 12 (.flt .f32)), (4, .nd 13 (.int .i64))]) ?_ ?_ tb_ok ap_ok ?_
      · refine midN_in ?_ .nil _ ?_ ?_ ?_
        · exact (.cons rfl (slOne hS) (.cons rfl (slOne hSk) (.cons rfl ⟨_, rfl⟩ (.cons rfl ⟨_, rfl⟩ (.cons rfl ⟨_, rfl⟩ (.cons rfl ⟨_, rfl⟩ (.cons rfl ⟨_, rfl, ho17_2⟩ (.cons rfl ⟨_, rfl, ho17_3⟩ (.cons rfl ⟨_, rfl, ho17_4⟩ (.cons rfl ⟨_, rfl, ho17_5⟩ (.cons rfl ⟨_, rfl, sqF_ok ms [.int .i64 (v17_0 : Int), .int .i64 (v17_1 : Int), .flt .f32 v17_2, .flt .f32 v17_3, .flt .f32 v17_4, .flt .f32 v17_5]⟩ (.cons rfl ⟨_, rfl⟩ (.cons rfl ⟨_, rfl, worstF_ok ms ks i31⟩ (.cons rfl ⟨_, rfl⟩ (.cons rfl ⟨_, rfl⟩ (.cons rfl ⟨_, rfl⟩ .nil))))))))))))))))
        · exact (.cons (win_row r75 (dlCons (dNd rfl (slOne hS)) (dlCons (dNd rfl (slOne hSk)) dlNil))) .nil)
        · exact sepOk_ro rfl
        · exact .nil
      · exact (envEq b64 (dNd rfl ⟨_, rfl⟩) (envEq b65 (dNd rfl ⟨_, rfl⟩) (envEq b67 (dNd rfl ⟨_, rfl⟩) (envEq b68 (dNd rfl (slOne hSk)) (envEq b69 (dPtr (l := p9) (o := 0) rfl) (envEq b70 (dNd rfl ⟨_, rfl, worstF_ok ms ks i31⟩) (envEq b71 (dNd rfl ⟨_, rfl⟩) envNil)))))))
      refine all1 (by kernel_rfl) ?_
      intro vs ls H76 E76 st hE
      refine res_ex (by kernel_rfl) (end_flat st.inn hE (.inr rfl) (a := .tuple [.int .i64 (worstF ms ks i31).1, .int .i64 0]) (by kernel_rfl) (Grew.trans g73 (st.kept.grew (Nat.le_of_ble_eq_true (by kernel_rfl)))) rfl ⟨?_, rfl⟩)
      unfold worstG; rw [if_pos f8, if_neg (by omega)]; rw [show ks.length = i31 by omega]
theorem k_spec_WorstLink (H : AHeap) (ms : List (List AV)) (hr : Recs KP ms) (S : AV) (hS : SlL H 3 ms S) (hmx : ms.length < 2 ^ 40) (ks : List (List AV)) (hrk : Recs KL ks) (Sk : AV) (hSk : SlL H 6 ks Sk) (hmxk : ks.length < 2 ^ 40) : APure Try.prog 34 [.agg [S, Sk]] H (.tuple [.int .i64 (worstG ms ks).1, .int .i64 (worstG ms ks).2]) := by
  refine res_start h_spec_WorstLink (by simp) ?_
  refine run_mn (φ := φ0) (pm := pmR 0 [] 0) 20 (nk := [(.atom 0, .one), (.atom 1, .one)]) (fs := []) (xs := [S, Sk]) (ws := []) (env := [(0, .agg [.nd 0 .one, .nd 1 .one])]) ?_ ?_ tb_ok ap_ok ?_
  · refine midN_in ?_ .nil _ ?_ ?_ ?_
    · exact (.cons rfl (slOne hS) (.cons rfl (slOne hSk) .nil))
    · exact .nil
    · exact sepOk_ro rfl
    · exact .nil
  · exact (envEq rfl (dAgg (dlCons (dNd rfl (slOne hS)) (dlCons (dNd rfl (slOne hSk)) dlNil))) envNil)
  refine all1 (by kernel_rfl) ?_
  intro vs ls H1 E1 st hE
  obtain ⟨p2, e3, r4, n5⟩ := ptr_of st.inn hE 1 0 (by kernel_rfl) (ds := [S, Sk]) (by kernel_rfl)
  have op2 : H.next ≤ p2 := Nat.le_trans (Nat.le_refl _) (n5 (Nat.le_of_ble_eq_true rfl))
  have g6 : Grew H H1 := (st.kept.grew (Nat.le_of_ble_eq_true (by kernel_rfl)))
  have g7 : Grew H H1 := Grew.trans (Grew.refl _) g6
  clear st hE vs ls
  refine res_call (d := (some 8)) (f := 61) (args := [.tmp 1]) (by kernel_rfl) (R := fun z H' => z = .bool (okG ms ks) ∧ H' = H1) ?_ ?_
  · show ACalls _ _ [E1 1] _ _
    rw [e3]
    exact k_l06Ok H1 p2 ms hr S (hS.grew g7) hmx ks hrk Sk (hSk.grew g7) hmxk r4
  rintro z H1 ⟨rfl, rfl⟩
  refine run_mn (φ := φ0) (pm := pmR 1 [(.len (.nd 1 .one), .nd 3 (.int .i64))] 0) 20 (nk := [(.atom 0, .one), (.atom 1, .one), (.atom 2, .bool), (.atom 3, .int .i64)]) (fs := []) (xs := [S, Sk, .bool (okG ms ks), .int .i64 (ks.length : Int)]) (ws := [⟨p2, 0, [.nd 0 .one, .nd 1 .one], false⟩]) (env := [(1, .ptr 0 0), (8, .nd 2 .bool)]) ?_ ?_ tb_ok ap_ok ?_
  · refine midN_in ?_ .nil _ ?_ ?_ ?_
    · exact (.cons rfl (slOne hS) (.cons rfl (slOne hSk) (.cons rfl ⟨_, rfl⟩ (.cons rfl ⟨_, rfl⟩ .nil))))
    · exact (.cons (win_row r4 (dlCons (dNd rfl (slOne hS)) (dlCons (dNd rfl (slOne hSk)) dlNil))) .nil)
    · exact sepOk_ro rfl
    · exact (.cons (⟨_, _, (dNd rfl (slOne hSk)), (dNd rfl ⟨_, rfl⟩), slLen hSk⟩) .nil)
  · exact (envEq (put_ne rfl e3) (dPtr (l := p2) (o := 0) rfl) (envEq put_same (dNd rfl ⟨_, rfl⟩) envNil))
  refine all3 (by kernel_rfl) ?_ ?_ ?_
  ·
    intro vs ls H8 E8 st hE
    have f9 : (okG ms ks) = false := bfact st.inn 0 (by kernel_rfl)
    refine res_ex (by kernel_rfl) (end_flat st.inn hE (.inr rfl) (a := .tuple [.int .i64 0, .int .i64 1]) (by kernel_rfl) (Grew.trans g7 (st.kept.grew (Nat.le_of_ble_eq_true (by kernel_rfl)))) rfl ⟨?_, rfl⟩)
    unfold worstG; rw [if_neg (by rw [f9]; decide)]
  ·
    intro vs ls H10 E10 st hE
    have f11 : (ks.length : Int) = 0 := of_decide_eq_true (bfact (x := decide ((ks.length : Int) = 0)) st.inn 0 (by kernel_rfl))
    have f12 : (okG ms ks) = true := bfact st.inn 1 (by kernel_rfl)
    have hok := f12
    have hlen := okG_len f12
    refine res_ex (by kernel_rfl) (end_flat st.inn hE (.inr rfl) (a := .tuple [.int .i64 0, .int .i64 6]) (by kernel_rfl) (Grew.trans g7 (st.kept.grew (Nat.le_of_ble_eq_true (by kernel_rfl)))) rfl ⟨?_, rfl⟩)
    unfold worstG; rw [if_pos f12, if_pos (by omega)]
  ·
    intro vs ls H13 E13 st hE
    have f14 : ¬ ((ks.length : Int) = 0) := of_decide_eq_false (bfact (x := decide ((ks.length : Int) = 0)) st.inn 0 (by kernel_rfl))
    have f15 : (okG ms ks) = true := bfact st.inn 1 (by kernel_rfl)
    have hok := f15
    have hlen := okG_len f15
    have b16 : E13 15 = Sk := env_of st.inn hE 15 (by kernel_rfl)
    have b17 : E13 1 = .ptr p2 0 := env_of st.inn hE 1 (by kernel_rfl)
    have b18 : E13 4 = .int .i64 0 := env_of st.inn hE 4 (by kernel_rfl)
    have g19 : Grew H1 H13 := (st.kept.grew (Nat.le_of_ble_eq_true (by kernel_rfl)))
    have g20 : Grew H H13 := Grew.trans g7 g19
    have r21 := g19.at r4
    clear st hE vs ls
    have hlt22 : 0 < ks.length := by omega
    obtain ⟨lS22, cap22, rest22, wr22, eS22, gB22⟩ := hSk.isSl hlt22
    have gS22 := g20.at gB22
    have ne23 : Apart p2 lS22 := ⟨Nat.ne_of_gt (Nat.lt_of_lt_of_le (H.lt_of_get gB22) op2)⟩
    obtain ⟨v22_0, v22_1, v22_2, v22_3, v22_4, v22_5, hm22, ho22_2, ho22_3, ho22_4, ho22_5, ha22, hb22, hne22⟩ := okG_link hok hrk 0 hlt22
    have he22 : ks.getD 0 [] = [.int .i64 (v22_0 : Int), .int .i64 (v22_1 : Int), .flt .f32 v22_2, .flt .f32 v22_3, .flt .f32 v22_4, .flt .f32 v22_5] := by rw [← hm22]; simp [List.getD_eq_getElem?_getD, hlt22]
    refine run_mn (φ := φ0) (pm := pmR 2 [(.ia 6 (.nd 1 .one) (.lit (.int .i64 0)), .ptr 1 0), (.call 69 [.ptr 0 0, .ptr 1 0], .nd 10 (.flt .f32))] 0) 20 (nk := [(.atom 0, .one), (.atom 1, .one), (.atom 2, .bool), (.atom 3, .int .i64), (.atom 4, .int .i64), (.atom 5, .int .i64), (.atom 6, .flt .f32), (.atom 7, .flt .f32), (.atom 8, .flt .f32), (.atom 9, .flt .f32), (.atom 10, .flt .f32)]) (fs := []) (xs := [S, Sk, .bool (okG ms ks), .int .i64 (ks.length : Int), .int .i64 (v22_0 : Int), .int .i64 (v22_1 : Int), .flt .f32 v22_2, .flt .f32 v22_3, .flt .f32 v22_4, .flt .f32 v22_5, .flt .f32 (sqF ms [.int .i64 (v22_0 : Int), .int .i64 (v22_1 : Int), .flt .f32 v22_2, .flt .f32 v22_3, .flt .f32 v22_4, .flt .f32 v22_5])]) (ws := [⟨p2, 0, [.nd 0 .one, .nd 1 .one], false⟩, ⟨lS22, (0 * 6), [.nd 4 (.int .i64), .nd 5 (.int .i64), .nd 6 (.flt .f32), .nd 7 (.flt .f32), .nd 8 (.flt .f32), .nd 9 (.flt .f32)], false⟩]) (env := [(15, .nd 1 .one), (1, .ptr 0 0), (4, .lit (.int .i64 0))]) ?_ ?_ tb_ok ap_ok ?_
    · refine midN_in ?_ .nil _ ?_ ?_ ?_
      · exact (.cons rfl (slOne hS) (.cons rfl (slOne hSk) (.cons rfl ⟨_, rfl⟩ (.cons rfl ⟨_, rfl⟩ (.cons rfl ⟨_, rfl⟩ (.cons rfl ⟨_, rfl⟩ (.cons rfl ⟨_, rfl, ho22_2⟩ (.cons rfl ⟨_, rfl, ho22_3⟩ (.cons rfl ⟨_, rfl, ho22_4⟩ (.cons rfl ⟨_, rfl, ho22_5⟩ (.cons rfl ⟨_, rfl, sqF_ok ms [.int .i64 (v22_0 : Int), .int .i64 (v22_1 : Int), .flt .f32 v22_2, .flt .f32 v22_3, .flt .f32 v22_4, .flt .f32 v22_5]⟩ .nil)))))))))))
      · exact (.cons (win_row r21 (dlCons (dNd rfl (slOne hS)) (dlCons (dNd rfl (slOne hSk)) dlNil))) (.cons (win_elem hrk gS22 hlt22 rfl (by rw [hm22]; exact (dlCons (dNd rfl ⟨_, rfl⟩) (dlCons (dNd rfl ⟨_, rfl⟩) (dlCons (dNd rfl ⟨_, rfl, ho22_2⟩) (dlCons (dNd rfl ⟨_, rfl, ho22_3⟩) (dlCons (dNd rfl ⟨_, rfl, ho22_4⟩) (dlCons (dNd rfl ⟨_, rfl, ho22_5⟩) dlNil)))))))) .nil))
      · exact sepOk_ro rfl
      · exact (.cons (rule_iaS (k := 0) (dNd rfl (slOne hSk)) eS22 (dLit rfl) hlt22 rfl) (.cons (rule_call (args := [.ptr p2 0, .ptr lS22 ((0 * 6) + 0)]) (dlCons (dPtr (l := p2) (o := 0) rfl) (dlCons (dPtr (l := lS22) (o := (0 * 6)) rfl) dlNil)) (dNd rfl ⟨_, rfl, sqF_ok ms [.int .i64 (v22_0 : Int), .int .i64 (v22_1 : Int), .flt .f32 v22_2, .flt .f32 v22_3, .flt .f32 v22_4, .flt .f32 v22_5]⟩) (fun H9 hk => (by obtain ⟨pre, post, g1, g2⟩ := flat_split hrk.len hlt22 rest22; exact k_l06Square H9 ms hr S (hS.grew (Grew.trans g20 (hk.grew (Nat.le_refl _)))) hmx Sk (slOne hSk) v22_0 v22_1 ha22 hb22 v22_2 v22_3 v22_4 v22_5 ho22_2 ho22_3 ho22_4 ho22_5 p2 ((hk.grew (Nat.le_refl _)).at r21) _ _ pre post wr22 (by rw [((hk.grew (Nat.le_refl _)).at gS22), g1, hm22]) g2))) .nil))
    · exact (envEq b16 (dNd rfl (slOne hSk)) (envEq b17 (dPtr (l := p2) (o := 0) rfl) (envEq b18 (dLit rfl) envNil)))
    refine all1 (by kernel_rfl) ?_
    intro vs ls H24 E24 st hE
    have b25 : E24 6 = .int .i64 1 := env_of st.inn hE 6 (by kernel_rfl)
    have b26 : E24 1 = .ptr p2 0 := env_of st.inn hE 1 (by kernel_rfl)
    have b27 : E24 5 = .flt .f32 (sqF ms [.int .i64 (v22_0 : Int), .int .i64 (v22_1 : Int), .flt .f32 v22_2, .flt .f32 v22_3, .flt .f32 v22_4, .flt .f32 v22_5]) := env_of st.inn hE 5 (by kernel_rfl)
    have b28 : E24 4 = .int .i64 0 := env_of st.inn hE 4 (by kernel_rfl)
    have g29 : Grew H13 H24 := (st.kept.grew (Nat.le_of_ble_eq_true (by kernel_rfl)))
    have g30 : Grew H H24 := Grew.trans g20 g29
    have r31 := g29.at r21
    clear st hE vs ls
    have hw33 : worstF ms ks 1 = (0, sqF ms [.int .i64 (v22_0 : Int), .int .i64 (v22_1 : Int), .flt .f32 v22_2, .flt .f32 v22_3, .flt .f32 v22_4, .flt .f32 v22_5]) := by rw [worstF_one, he22]
    refine res_scanv (by kernel_rfl) (fun i => [(1, .ptr p2 0), (5, .flt .f32 (worstF ms ks i).2), (4, .int .i64 (worstF ms ks i).1)]) 6 1 ks.length (fun i => True) (by omega) (.cons b26 (.cons (b27.trans (by rw [hw33])) (.cons (b28.trans (by rw [hw33])) .nil))) b25 (Grew.refl _) trivial ?_
    intro i34 hoi34 hli34 hIi34 Ei34 Hi34 hsi34 hci34 hgi34
    have g35 : Grew H Hi34 := Grew.trans g30 hgi34
    have r36 := hgi34.at r31
    refine run_mn (φ := φ0) (pm := pmR 1 [(.len (.nd 1 .one), .nd 14 (.int .i64))] 0) 20 (nk := [(.atom 0, .one), (.atom 1, .one), (.atom 2, .bool), (.atom 3, .int .i64), (.atom 4, .int .i64), (.atom 5, .int .i64), (.atom 6, .flt .f32), (.atom 7, .flt .f32), (.atom 8, .flt .f32), (.atom 9, .flt .f32), (.atom 10, .flt .f32), (.atom 11, .flt .f32), (.atom 12, .int .i64), (.atom 13, .int .i64), (.atom 14, .int .i64)]) (fs := []) (xs := [S, Sk, .bool (okG ms ks), .int .i64 (ks.length : Int), .int .i64 (v22_0 : Int), .int .i64 (v22_1 : Int), .flt .f32 v22_2, .flt .f32 v22_3, .flt .f32 v22_4, .flt .f32 v22_5, .flt .f32 (sqF ms [.int .i64 (v22_0 : Int), .int .i64 (v22_1 : Int), .flt .f32 v22_2, .flt .f32 v22_3, .flt .f32 v22_4, .flt .f32 v22_5]), .flt .f32 (worstF ms ks i34).2, .int .i64 (worstF ms ks i34).1, .int .i64 (i34 : Int), .int .i64 (ks.length : Int)]) (ws := [⟨p2, 0, [.nd 0 .one, .nd 1 .one], false⟩]) (env := [(1, .ptr 0 0), (5, .nd 11 (.flt .f32)), (4, .nd 12 (.int .i64)), (6, .nd 13 (.int .i64))]) ?_ ?_ tb_ok ap_ok ?_
    · refine midN_in ?_ .nil _ ?_ ?_ ?_
      · exact (.cons rfl (slOne hS) (.cons rfl (slOne hSk) (.cons rfl ⟨_, rfl⟩ (.cons rfl ⟨_, rfl⟩ (.cons rfl ⟨_, rfl⟩ (.cons rfl ⟨_, rfl⟩ (.cons rfl ⟨_, rfl, ho22_2⟩ (.cons rfl ⟨_, rfl, ho22_3⟩ (.cons rfl ⟨_, rfl, ho22_4⟩ (.cons rfl ⟨_, rfl, ho22_5⟩ (.cons rfl ⟨_, rfl, sqF_ok ms [.int .i64 (v22_0 : Int), .int .i64 (v22_1 : Int), .flt .f32 v22_2, .flt .f32 v22_3, .flt .f32 v22_4, .flt .f32 v22_5]⟩ (.cons rfl ⟨_, rfl, worstF_ok ms ks i34⟩ (.cons rfl ⟨_, rfl⟩ (.cons rfl ⟨_, rfl⟩ (.cons rfl ⟨_, rfl⟩ .nil)))))))))))))))
      · exact (.cons (win_row r36 (dlCons (dNd rfl (slOne hS)) (dlCons (dNd rfl (slOne hSk)) dlNil))) .nil)
      · exact sepOk_ro rfl
      · exact (.cons (⟨_, _, (dNd rfl (slOne hSk)), (dNd rfl ⟨_, rfl⟩), slLen hSk⟩) .nil)
    · exact (envEq (hsi34.at 0 rfl) (dPtr (l := p2) (o := 0) rfl) (envEq (hsi34.at 1 rfl) (dNd rfl ⟨_, rfl, worstF_ok ms ks i34⟩) (envEq (hsi34.at 2 rfl) (dNd rfl ⟨_, rfl⟩) (envEq hci34 (dNd rfl ⟨_, rfl⟩) envNil))))
    refine all2 (by kernel_rfl) ?_ ?_
    ·
      intro vs ls H37 E37 st hE
      have f38 : (i34 : Int) < (ks.length : Int) := of_decide_eq_true (bfact (x := decide ((i34 : Int) < (ks.length : Int))) st.inn 0 (by kernel_rfl))
      have b39 : E37 26 = Sk := env_of st.inn hE 26 (by kernel_rfl)
      have b40 : E37 27 = .int .i64 (i34 : Int) := env_of st.inn hE 27 (by kernel_rfl)
      have b41 : E37 1 = .ptr p2 0 := env_of st.inn hE 1 (by kernel_rfl)
      have b42 : E37 5 = .flt .f32 (worstF ms ks i34).2 := env_of st.inn hE 5 (by kernel_rfl)
      have b43 : E37 6 = .int .i64 (i34 : Int) := env_of st.inn hE 6 (by kernel_rfl)
      have b44 : E37 4 = .int .i64 (worstF ms ks i34).1 := env_of st.inn hE 4 (by kernel_rfl)
      have g45 : Grew Hi34 H37 := (st.kept.grew (Nat.le_of_ble_eq_true (by kernel_rfl)))
      have g46 : Grew H H37 := Grew.trans g35 g45
      have g47 : Grew H24 H37 := Grew.trans hgi34 g45
      have r48 := g45.at r36
      clear st hE vs ls
      have hlt49 : i34 < ks.length := by omega
      obtain ⟨lS49, cap49, rest49, wr49, eS49, gB49⟩ := hSk.isSl hlt49
      have gS49 := g46.at gB49
      have ne50 : Apart p2 lS49 := ⟨Nat.ne_of_gt (Nat.lt_of_lt_of_le (H.lt_of_get gB49) op2)⟩
      obtain ⟨v49_0, v49_1, v49_2, v49_3, v49_4, v49_5, hm49, ho49_2, ho49_3, ho49_4, ho49_5, ha49, hb49, hne49⟩ := okG_link hok hrk i34 hlt49
      have he49 : ks.getD i34 [] = [.int .i64 (v49_0 : Int), .int .i64 (v49_1 : Int), .flt .f32 v49_2, .flt .f32 v49_3, .flt .f32 v49_4, .flt .f32 v49_5] := by rw [← hm49]; simp [List.getD_eq_getElem?_getD, hlt49]
      refine run_mn (φ := φ0) (pm := pmR 2 [(.ia 6 (.nd 1 .one) (.nd 13 (.int .i64)), .ptr 1 0), (.call 69 [.ptr 0 0, .ptr 1 0], .nd 21 (.flt .f32))] 0) 20 (nk := [(.atom 0, .one), (.atom 1, .one), (.atom 2, .bool), (.atom 3, .int .i64), (.atom 4, .int .i64), (.atom 5, .int .i64), (.atom 6, .flt .f32), (.atom 7, .flt .f32), (.atom 8, .flt .f32), (.atom 9, .flt .f32), (.atom 10, .flt .f32), (.atom 11, .flt .f32), (.atom 12, .int .i64), (.atom 13, .int .i64), (.atom 14, .int .i64), (.atom 15, .int .i64), (.atom 16, .int .i64), (.atom 17, .flt .f32), (.atom 18, .flt .f32), (.atom 19, .flt .f32), (.atom 20, .flt .f32), (.atom 21, .flt .f32)]) (fs := []) (xs := [S, Sk, .bool (okG ms ks), .int .i64 (ks.length : Int), .int .i64 (v22_0 : Int), .int .i64 (v22_1 : Int), .flt .f32 v22_2, .flt .f32 v22_3, .flt .f32 v22_4, .flt .f32 v22_5, .flt .f32 (sqF ms [.int .i64 (v22_0 : Int), .int .i64 (v22_1 : Int), .flt .f32 v22_2, .flt .f32 v22_3, .flt .f32 v22_4, .flt .f32 v22_5]), .flt .f32 (worstF ms ks i34).2, .int .i64 (worstF ms ks i34).1, .int .i64 (i34 : Int), .int .i64 (ks.length : Int), .int .i64 (v49_0 : Int), .int .i64 (v49_1 : Int), .flt .f32 v49_2, .flt .f32 v49_3, .flt .f32 v49_4, .flt .f32 v49_5, .flt .f32 (sqF ms [.int .i64 (v49_0 : Int), .int .i64 (v49_1 : Int), .flt .f32 v49_2, .flt .f32 v49_3, .flt .f32 v49_4, .flt .f32 v49_5])]) (ws := [⟨p2, 0, [.nd 0 .one, .nd 1 .one], false⟩, ⟨lS49, (i34 * 6), [.nd 15 (.int .i64), .nd 16 (.int .i64), .nd 17 (.flt .f32), .nd 18 (.flt .f32), .nd 19 (.flt .f32), .nd 20 (.flt .f32)], false⟩]) (env := [(26, .nd 1 .one), (27, .nd 13 (.int .i64)), (1, .ptr 0 0), (5, .nd 11 (.flt .f32)), (6, .nd 13 (.int .i64)), (4, .nd 12 (.int .i64))]) ?_ ?_ tb_ok ap_ok ?_
      · refine midN_in ?_ .nil _ ?_ ?_ ?_
        · exact (.cons rfl (slOne hS) (.cons rfl (slOne hSk) (.cons rfl ⟨_, rfl⟩ (.cons rfl ⟨_, rfl⟩ (.cons rfl ⟨_, rfl⟩ (.cons rfl ⟨_, rfl⟩ (.cons rfl ⟨_, rfl, ho22_2⟩ (.cons rfl ⟨_, rfl, ho22_3⟩ (.cons rfl ⟨_, rfl, ho22_4⟩ (.cons rfl ⟨_, rfl, ho22_5⟩ (.cons rfl ⟨_, rfl, sqF_ok ms [.int .i64 (v22_0 : Int), .int .i64 (v22_1 : Int), .flt .f32 v22_2, .flt .f32 v22_3, .flt .f32 v22_4, .flt .f32 v22_5]⟩ (.cons rfl ⟨_, rfl, worstF_ok ms ks i34⟩ (.cons rfl ⟨_, rfl⟩ (.cons rfl ⟨_, rfl⟩ (.cons rfl ⟨_, rfl⟩ (.cons rfl ⟨_, rfl⟩ (.cons rfl ⟨_, rfl⟩ (.cons rfl ⟨_, rfl, ho49_2⟩ (.cons rfl ⟨_, rfl, ho49_3⟩ (.cons rfl ⟨_, rfl, ho49_4⟩ (.cons rfl ⟨_, rfl, ho49_5⟩ (.cons rfl ⟨_, rfl, sqF_ok ms [.int .i64 (v49_0 : Int), .int .i64 (v49_1 : Int), .flt .f32 v49_2, .flt .f32 v49_3, .flt .f32 v49_4, .flt .f32 v49_5]⟩ .nil))))))))))))))))))))))
        · exact (.cons (win_row r48 (dlCons (dNd rfl (slOne hS)) (dlCons (dNd rfl (slOne hSk)) dlNil))) (.cons (win_elem hrk gS49 hlt49 rfl (by rw [hm49]; exact (dlCons (dNd rfl ⟨_, rfl⟩) (dlCons (dNd rfl ⟨_, rfl⟩) (dlCons (dNd rfl ⟨_, rfl, ho49_2⟩) (dlCons (dNd rfl ⟨_, rfl, ho49_3⟩) (dlCons (dNd rfl ⟨_, rfl, ho49_4⟩) (dlCons (dNd rfl ⟨_, rfl, ho49_5⟩) dlNil)))))))) .nil))
        · exact sepOk_ro rfl
        · exact (.cons (rule_iaS (k := i34) (dNd rfl (slOne hSk)) eS49 (dNd rfl ⟨_, rfl⟩) hlt49 rfl) (.cons (rule_call (args := [.ptr p2 0, .ptr lS49 ((i34 * 6) + 0)]) (dlCons (dPtr (l := p2) (o := 0) rfl) (dlCons (dPtr (l := lS49) (o := (i34 * 6)) rfl) dlNil)) (dNd rfl ⟨_, rfl, sqF_ok ms [.int .i64 (v49_0 : Int), .int .i64 (v49_1 : Int), .flt .f32 v49_2, .flt .f32 v49_3, .flt .f32 v49_4, .flt .f32 v49_5]⟩) (fun H9 hk => (by obtain ⟨pre, post, g1, g2⟩ := flat_split hrk.len hlt49 rest49; exact k_l06Square H9 ms hr S (hS.grew (Grew.trans g46 (hk.grew (Nat.le_refl _)))) hmx Sk (slOne hSk) v49_0 v49_1 ha49 hb49 v49_2 v49_3 v49_4 v49_5 ho49_2 ho49_3 ho49_4 ho49_5 p2 ((hk.grew (Nat.le_refl _)).at r48) _ _ pre post wr49 (by rw [((hk.grew (Nat.le_refl _)).at gS49), g1, hm49]) g2))) .nil))
      · exact (envEq b39 (dNd rfl (slOne hSk)) (envEq b40 (dNd rfl ⟨_, rfl⟩) (envEq b41 (dPtr (l := p2) (o := 0) rfl) (envEq b42 (dNd rfl ⟨_, rfl, worstF_ok ms ks i34⟩) (envEq b43 (dNd rfl ⟨_, rfl⟩) (envEq b44 (dNd rfl ⟨_, rfl⟩) envNil))))))
      refine all4 (by kernel_rfl) ?_ ?_ ?_ ?_
      ·
        intro vs ls H51 E51 st hE
        have f52 : (ford .f32 (worstF ms ks i34).2 (sqF ms [.int .i64 (v49_0 : Int), .int .i64 (v49_1 : Int), .flt .f32 v49_2, .flt .f32 v49_3, .flt .f32 v49_4, .flt .f32 v49_5]) == some .lt) = true := bfact st.inn 0 (by kernel_rfl)
        have hlti34 : i34 < ks.length := by omega
        refine res_nextv (sl := fun i => [(1, .ptr p2 0), (5, .flt .f32 (worstF ms ks i).2), (4, .int .i64 (worstF ms ks i).1)]) (sl' := [(1, .ptr p2 0), (5, .flt .f32 (sqF ms [.int .i64 (v49_0 : Int), .int .i64 (v49_1 : Int), .flt .f32 v49_2, .flt .f32 v49_3, .flt .f32 v49_4, .flt .f32 v49_5])), (4, .int .i64 (i34 : Int))]) (ti := 6) (i := i34) (Inv := fun i => True) (by kernel_rfl) st.inn hE hlti34 (by kernel_rfl) ?_ (w := (IntKind.wrap .i64 ((i34 : Int) + 1))) (by kernel_rfl) (wrap64 (by omega)) (Grew.trans g47 (st.kept.grew (Nat.le_of_ble_eq_true (by kernel_rfl)))) ?_
        have hn9 : worstF ms ks (i34 + 1) = (((i34 : Nat) : Int), (sqF ms [.int .i64 (v49_0 : Int), .int .i64 (v49_1 : Int), .flt .f32 v49_2, .flt .f32 v49_3, .flt .f32 v49_4, .flt .f32 v49_5])) := by
          show worstS _ _ _ = _; unfold worstS; rw [he49]; rw [if_pos (by simp [f52])]
        · show _ = [_, _, _]; simp only [hn9]
        trivial
      ·
        intro vs ls H53 E53 st hE
        have f54 : (ford .f32 (sqF ms [.int .i64 (v49_0 : Int), .int .i64 (v49_1 : Int), .flt .f32 v49_2, .flt .f32 v49_3, .flt .f32 v49_4, .flt .f32 v49_5]) (sqF ms [.int .i64 (v49_0 : Int), .int .i64 (v49_1 : Int), .flt .f32 v49_2, .flt .f32 v49_3, .flt .f32 v49_4, .flt .f32 v49_5]) == some .eq) = true := bfact st.inn 0 (by kernel_rfl)
        have f55 : (ford .f32 (worstF ms ks i34).2 (worstF ms ks i34).2 == some .eq) = false := bfact st.inn 1 (by kernel_rfl)
        have f56 : (ford .f32 (worstF ms ks i34).2 (sqF ms [.int .i64 (v49_0 : Int), .int .i64 (v49_1 : Int), .flt .f32 v49_2, .flt .f32 v49_3, .flt .f32 v49_4, .flt .f32 v49_5]) == some .lt) = false := bfact st.inn 2 (by kernel_rfl)
        have hlti34 : i34 < ks.length := by omega
        refine res_nextv (sl := fun i => [(1, .ptr p2 0), (5, .flt .f32 (worstF ms ks i).2), (4, .int .i64 (worstF ms ks i).1)]) (sl' := [(1, .ptr p2 0), (5, .flt .f32 (sqF ms [.int .i64 (v49_0 : Int), .int .i64 (v49_1 : Int), .flt .f32 v49_2, .flt .f32 v49_3, .flt .f32 v49_4, .flt .f32 v49_5])), (4, .int .i64 (i34 : Int))]) (ti := 6) (i := i34) (Inv := fun i => True) (by kernel_rfl) st.inn hE hlti34 (by kernel_rfl) ?_ (w := (IntKind.wrap .i64 ((i34 : Int) + 1))) (by kernel_rfl) (wrap64 (by omega)) (Grew.trans g47 (st.kept.grew (Nat.le_of_ble_eq_true (by kernel_rfl)))) ?_
        have hn9 : worstF ms ks (i34 + 1) = (((i34 : Nat) : Int), (sqF ms [.int .i64 (v49_0 : Int), .int .i64 (v49_1 : Int), .flt .f32 v49_2, .flt .f32 v49_3, .flt .f32 v49_4, .flt .f32 v49_5])) := by
          show worstS _ _ _ = _; unfold worstS; rw [he49]; rw [if_pos (by simp [f54, f55, f56])]
        · show _ = [_, _, _]; simp only [hn9]
        trivial
      ·
        intro vs ls H57 E57 st hE
        have f58 : (ford .f32 (sqF ms [.int .i64 (v49_0 : Int), .int .i64 (v49_1 : Int), .flt .f32 v49_2, .flt .f32 v49_3, .flt .f32 v49_4, .flt .f32 v49_5]) (sqF ms [.int .i64 (v49_0 : Int), .int .i64 (v49_1 : Int), .flt .f32 v49_2, .flt .f32 v49_3, .flt .f32 v49_4, .flt .f32 v49_5]) == some .eq) = false := bfact st.inn 0 (by kernel_rfl)
        have f59 : (ford .f32 (worstF ms ks i34).2 (worstF ms ks i34).2 == some .eq) = false := bfact st.inn 1 (by kernel_rfl)
        have f60 : (ford .f32 (worstF ms ks i34).2 (sqF ms [.int .i64 (v49_0 : Int), .int .i64 (v49_1 : Int), .flt .f32 v49_2, .flt .f32 v49_3, .flt .f32 v49_4, .flt .f32 v49_5]) == some .lt) = false := bfact st.inn 2 (by kernel_rfl)
        have hlti34 : i34 < ks.length := by omega
        refine res_nextv (sl := fun i => [(1, .ptr p2 0), (5, .flt .f32 (worstF ms ks i).2), (4, .int .i64 (worstF ms ks i).1)]) (sl' := [(1, .ptr p2 0), (5, .flt .f32 (worstF ms ks i34).2), (4, .int .i64 (worstF ms ks i34).1)]) (ti := 6) (i := i34) (Inv := fun i => True) (by kernel_rfl) st.inn hE hlti34 (by kernel_rfl) ?_ (w := (IntKind.wrap .i64 ((i34 : Int) + 1))) (by kernel_rfl) (wrap64 (by omega)) (Grew.trans g47 (st.kept.grew (Nat.le_of_ble_eq_true (by kernel_rfl)))) ?_
        have hn9 : worstF ms ks (i34 + 1) = ((worstF ms ks i34).1, (worstF ms ks i34).2) := by
          show worstS _ _ _ = _; unfold worstS; rw [he49]; rw [if_neg (by simp [f58, f59, f60])]
        · show _ = [_, _, _]; simp only [hn9]
        trivial
      ·
        intro vs ls H61 E61 st hE
        have f62 : (ford .f32 (worstF ms ks i34).2 (worstF ms ks i34).2 == some .eq) = true := bfact st.inn 0 (by kernel_rfl)
        have f63 : (ford .f32 (worstF ms ks i34).2 (sqF ms [.int .i64 (v49_0 : Int), .int .i64 (v49_1 : Int), .flt .f32 v49_2, .flt .f32 v49_3, .flt .f32 v49_4, .flt .f32 v49_5]) == some .lt) = false := bfact st.inn 1 (by kernel_rfl)
        have hlti34 : i34 < ks.length := by omega
        refine res_nextv (sl := fun i => [(1, .ptr p2 0), (5, .flt .f32 (worstF ms ks i).2), (4, .int .i64 (worstF ms ks i).1)]) (sl' := [(1, .ptr p2 0), (5, .flt .f32 (worstF ms ks i34).2), (4, .int .i64 (worstF ms ks i34).1)]) (ti := 6) (i := i34) (Inv := fun i => True) (by kernel_rfl) st.inn hE hlti34 (by kernel_rfl) ?_ (w := (IntKind.wrap .i64 ((i34 : Int) + 1))) (by kernel_rfl) (wrap64 (by omega)) (Grew.trans g47 (st.kept.grew (Nat.le_of_ble_eq_true (by kernel_rfl)))) ?_
        have hn9 : worstF ms ks (i34 + 1) = ((worstF ms ks i34).1, (worstF ms ks i34).2) := by
          show worstS _ _ _ = _; unfold worstS; rw [he49]; rw [if_neg (by simp [f62, f63])]
        · show _ = [_, _, _]; simp only [hn9]
        trivial
    ·
      intro vs ls H64 E64 st hE
      have f65 : ¬ ((i34 : Int) < (ks.length : Int)) := of_decide_eq_false (bfact (x := decide ((i34 : Int) < (ks.length : Int))) st.inn 0 (by kernel_rfl))
      have b66 : E64 6 = .int .i64 (i34 : Int) := env_of st.inn hE 6 (by kernel_rfl)
      have b67 : E64 1 = .ptr p2 0 := env_of st.inn hE 1 (by kernel_rfl)
      have b68 : E64 19 = .ptr p2 1 := env_of st.inn hE 19 (by kernel_rfl)
      have b69 : E64 20 = Sk := env_of st.inn hE 20 (by kernel_rfl)
      have b70 : E64 18 = .int .i64 (i34 : Int) := env_of st.inn hE 18 (by kernel_rfl)
      have b71 : E64 21 = .int .i64 (ks.length : Int) := env_of st.inn hE 21 (by kernel_rfl)
      obtain ⟨w72, hw72⟩ : ∃ z, z = (decide ((i34 : Int) < (ks.length : Int))) := ⟨_, rfl⟩
      have b73 : E64 22 = .bool w72 := by rw [hw72]; exact env_of st.inn hE 22 (by kernel_rfl)
      have b74 : E64 5 = .flt .f32 (worstF ms ks i34).2 := env_of st.inn hE 5 (by kernel_rfl)
      have b75 : E64 4 = .int .i64 (worstF ms ks i34).1 := env_of st.inn hE 4 (by kernel_rfl)
      have g76 : Grew Hi34 H64 := (st.kept.grew (Nat.le_of_ble_eq_true (by kernel_rfl)))
      have g77 : Grew H H64 := Grew.trans g35 g76
      have g78 : Grew H24 H64 := Grew.trans hgi34 g76
      have r79 := g76.at r36
      clear st hE vs ls
      refine res_exit (id := 0) (by kernel_rfl) ?_
      refine run_mn (φ := φ0) (pm := pmR 1 [] 0) 20 (nk := [(.atom 0, .one), (.atom 1, .one), (.atom 2, .bool), (.atom 3, .int .i64), (.atom 4, .int .i64), (.atom 5, .int .i64), (.atom 6, .flt .f32), (.atom 7, .flt .f32), (.atom 8, .flt .f32), (.atom 9, .flt .f32), (.atom 10, .flt .f32), (.atom 11, .flt .f32), (.atom 12, .int .i64), (.atom 13, .int .i64), (.atom 14, .int .i64), (.atom 15, .bool)]) (fs := []) (xs := [S, Sk, .bool (okG ms ks), .int .i64 (ks.length : Int), .int .i64 (v22_0 : Int), .int .i64 (v22_1 : Int), .flt .f32 v22_2, .flt .f32 v22_3, .flt .f32 v22_4, .flt .f32 v22_5, .flt .f32 (sqF ms [.int .i64 (v22_0 : Int), .int .i64 (v22_1 : Int), .flt .f32 v22_2, .flt .f32 v22_3, .flt .f32 v22_4, .flt .f32 v22_5]), .flt .f32 (worstF ms ks i34).2, .int .i64 (worstF ms ks i34).1, .int .i64 (i34 : Int), .int .i64 (ks.length : Int), .bool w72]) (ws := [⟨p2, 0, [.nd 0 .one, .nd 1 .one], false⟩]) (env := [(6, .nd 13 (.int .i64)), (1, .ptr 0 0), (19, .ptr 0 1), (20, .nd 1 .one), (18, .nd 13 (.int .i64)), (21, .nd 14 (.int .i64)), (22, .nd 15 .bool), (5, .nd 11 (.flt .f32)), (4, .nd 12 (.int .i64))]) ?_ ?_ tb_ok ap_ok ?_
      · refine midN_in ?_ .nil _ ?_ ?_ ?_
        · exact (.cons rfl (slOne hS) (.cons rfl (slOne hSk) (.cons rfl ⟨_, rfl⟩ (.cons rfl ⟨_, rfl⟩ (.cons rfl ⟨_, rfl⟩ (.cons rfl ⟨_, rfl⟩ (.cons rfl ⟨_, rfl, ho22_2⟩ (.cons rfl ⟨_, rfl, ho22_3⟩ (.cons rfl ⟨_, rfl, ho22_4⟩ (.cons rfl ⟨_, rfl, ho22_5⟩ (.cons rfl ⟨_, rfl, sqF_ok ms [.int .i64 (v22_0 : Int), .int .i64 (v22_1 : Int), .flt .f32 v22_2, .flt .f32 v22_3, .flt .f32 v22_4, .flt .f32 v22_5]⟩ (.cons rfl ⟨_, rfl, worstF_ok ms ks i34⟩ (.cons rfl ⟨_, rfl⟩ (.cons rfl ⟨_, rfl⟩ (.cons rfl ⟨_, rfl⟩ (.cons rfl ⟨_, rfl⟩ .nil))))))))))))))))
        · exact (.cons (win_row r79 (dlCons (dNd rfl (slOne hS)) (dlCons (dNd rfl (slOne hSk)) dlNil))) .nil)
        · exact sepOk_ro rfl
        · exact .nil
      · exact (envEq b66 (dNd rfl ⟨_, rfl⟩) (envEq b67 (dPtr (l := p2) (o := 0) rfl) (envEq b68 (dPtr (l := p2) (o := 0) rfl) (envEq b69 (dNd rfl (slOne hSk)) (envEq b70 (dNd rfl ⟨_, rfl⟩) (envEq b71 (dNd rfl ⟨_, rfl⟩) (envEq b73 (dNd rfl ⟨_, rfl⟩) (envEq b74 (dNd rfl ⟨_, rfl, worstF_ok ms ks i34⟩) (envEq b75 (dNd rfl ⟨_, rfl⟩) envNil)))))))))
      refine all1 (by kernel_rfl) ?_
      intro vs ls H80 E80 st hE
      refine res_ex (by kernel_rfl) (end_flat st.inn hE (.inr rfl) (a := .tuple [.int .i64 (worstF ms ks i34).1, .int .i64 0]) (by kernel_rfl) (Grew.trans g77 (st.kept.grew (Nat.le_of_ble_eq_true (by kernel_rfl)))) rfl ⟨?_, rfl⟩)
      unfold worstG; rw [if_pos f15, if_neg (by omega)]; rw [show ks.length = i34 by omega]
end Go.Proofs.Ytcmoeocemmeofaa
