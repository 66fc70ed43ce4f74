/- Contracts: residuals and costs, by both. -/
import Derived.Test.YtllgmcgdkhnilaaResB
set_option linter.unusedVariables false
set_option linter.unusedSimpArgs false
namespace Go.Proofs.Ytllgmcgdkhnilaa
open Go.Ab
set_option maxRecDepth 100000
set_option maxHeartbeats 1000000
attribute [local irreducible] Res
noncomputable def offL (ms : List (List AV)) : List AV → List AV
  | [.int _ a, .int _ b, x, y, z, _] => offF ms a.toNat b.toNat [x, y, z]
  | _ => zeroP
theorem offL_ok (ms : List (List AV)) (m : List AV) : KdsL KP (offL ms m) := by
  unfold offL
  split
  · exact offF_ok _ _ _ _
  · exact zeroP_ok
noncomputable def resF (ms ks : List (List AV)) (i : Int) : List AV × Int :=
  if okG ms ks = true then (if 0 ≤ i ∧ i < ks.length then (offL ms (ks.getD i.toNat []), 0) else (zeroP, 2)) else (zeroP, 1)
theorem resF_ok (ms ks : List (List AV)) (i : Int) : KdsL KP (resF ms ks i).1 := by
  unfold resF
  split
  · split
    · exact offL_ok _ _
    · exact zeroP_ok
  · exact zeroP_ok
noncomputable def costG (ms ks : List (List AV)) : Option Nat × Int := if okG ms ks = true then (costF ms ks ks.length, 0) else (some 0, 1)
theorem costG_ok (ms ks : List (List AV)) : fOk .f32 (costG ms ks).1 := by
  unfold costG
  split
  · exact costF_ok _ _ _
  · exact zero_ok32
theorem k_impl_ResidualOf (H : AHeap) (ms : List (List AV)) (hr : Recs KP ms) (S : AV) (hS : SlL H 3 ms S) (hmx : ms.length < 2 ^ 40) (ks : List (List AV)) (hrk : Recs KL ks) (Sk : AV) (hSk : SlL H 6 ks Sk) (hmxk : ks.length < 2 ^ 40) (i : Int) : APure Try.prog 51 [.agg [S, Sk], .int .i64 i] H (.tuple [.agg (resF ms ks i).1, .int .i64 (resF ms ks i).2]) := by
  refine res_start h_impl_ResidualOf (by simp) ?_
  refine run_mn (φ := φ0) (pm := pmR 0 [(.call 26 [.agg [.nd 0 .one, .nd 1 .one]], .nd 3 .bool), (.len (.nd 1 .one), .nd 4 (.int .i64))] 0) 20 (nk := [(.atom 0, .one), (.atom 1, .one), (.atom 2, .int .i64), (.atom 3, .bool), (.atom 4, .int .i64)]) (fs := []) (xs := [S, Sk, .int .i64 i, .bool (okG ms ks), .int .i64 (ks.length : Int)]) (ws := []) (env := [(0, .agg [.nd 0 .one, .nd 1 .one]), (1, .nd 2 (.int .i64))]) ?_ ?_ tb_ok ap_ok ?_
  · refine midN_in ?_ .nil _ ?_ ?_ ?_
    · exact (.cons rfl (slOne hS) (.cons rfl (slOne hSk) (.cons rfl ⟨_, rfl⟩ (.cons rfl ⟨_, rfl⟩ (.cons rfl ⟨_, rfl⟩ .nil)))))
    · exact .nil
    · exact sepOk_ro rfl
    · exact (.cons (rule_call (args := [.agg [S, Sk]]) (dlCons (dAgg (dlCons (dNd rfl (slOne hS)) (dlCons (dNd rfl (slOne hSk)) dlNil))) dlNil) (dNd rfl ⟨_, rfl⟩) (fun H9 hk => k_impl_ValidGraph H9 ms hr S (hS.grew (Grew.trans (Grew.refl _) (hk.grew (Nat.le_refl _)))) hmx ks hrk Sk (hSk.grew (Grew.trans (Grew.refl _) (hk.grew (Nat.le_refl _)))) hmxk)) (.cons (⟨_, _, (dNd rfl (slOne hSk)), (dNd rfl ⟨_, rfl⟩), slLen hSk⟩) .nil))
  · exact (envEq rfl (dAgg (dlCons (dNd rfl (slOne hS)) (dlCons (dNd rfl (slOne hSk)) dlNil))) (envEq rfl (dNd rfl ⟨_, rfl⟩) envNil))
  refine all4 (by kernel_rfl) ?_ ?_ ?_ ?_
  ·
    intro vs ls H1 E1 st hE
    have f2 : (okG ms ks) = false := bfact st.inn 0 (by kernel_rfl)
    refine res_ex (by kernel_rfl) (end_flat st.inn hE (.inr rfl) (a := .tuple [.agg [.flt .f32 (some 0), .flt .f32 (some 0), .flt .f32 (some 0)], .int .i64 1]) (by kernel_rfl) (Grew.trans (Grew.refl _) (st.kept.grew (Nat.le_of_ble_eq_true (by kernel_rfl)))) rfl ⟨?_, rfl⟩)
    unfold resF; rw [if_neg (by rw [f2]; decide)]; rfl
  ·
    intro vs ls H3 E3 st hE
    have f4 : (IntKind.wrap .i64 ((ks.length : Int) - 1)) < i := of_decide_eq_true (bfact (x := decide ((IntKind.wrap .i64 ((ks.length : Int) - 1)) < i)) st.inn 0 (by kernel_rfl))
    rw [show (IntKind.wrap .i64 ((ks.length : Int) - 1)) = ((ks.length : Int) - 1) from wrap_i64 (by omega) (by omega)] at f4
    have f5 : ¬ (i < 0) := of_decide_eq_false (bfact (x := decide (i < 0)) st.inn 1 (by kernel_rfl))
    have f6 : (okG ms ks) = true := bfact st.inn 2 (by kernel_rfl)
    have hok := f6
    have hlen := okG_len f6
    refine res_ex (by kernel_rfl) (end_flat st.inn hE (.inr rfl) (a := .tuple [.agg [.flt .f32 (some 0), .flt .f32 (some 0), .flt .f32 (some 0)], .int .i64 2]) (by kernel_rfl) (Grew.trans (Grew.refl _) (st.kept.grew (Nat.le_of_ble_eq_true (by kernel_rfl)))) rfl ⟨?_, rfl⟩)
    unfold resF; rw [if_pos f6, if_neg (by omega)]; rfl
  ·
    intro vs ls H7 E7 st hE
    have f8 : ¬ ((IntKind.wrap .i64 ((ks.length : Int) - 1)) < i) := of_decide_eq_false (bfact (x := decide ((IntKind.wrap .i64 ((ks.length : Int) - 1)) < i)) st.inn 0 (by kernel_rfl))
    rw [show (IntKind.wrap .i64 ((ks.length : Int) - 1)) = ((ks.length : Int) - 1) from wrap_i64 (by omega) (by omega)] at f8
    have f9 : ¬ (i < 0) := of_decide_eq_false (bfact (x := decide (i < 0)) st.inn 1 (by kernel_rfl))
    have f10 : (okG ms ks) = true := bfact st.inn 2 (by kernel_rfl)
    have hok := f10
    have hlen := okG_len f10
    obtain ⟨p11, e12, r13, n14⟩ := ptr_of st.inn hE 4 1 (by kernel_rfl) (ds := [.flt .f32 (some 0), .flt .f32 (some 0), .flt .f32 (some 0)]) (by kernel_rfl)
    have op11 : H.next ≤ p11 := Nat.le_trans (Nat.le_refl _) (n14 (Nat.le_of_ble_eq_true rfl))
    have b15 : E7 22 = Sk := env_of st.inn hE 22 (by kernel_rfl)
    have b16 : E7 23 = .int .i64 i := env_of st.inn hE 23 (by kernel_rfl)
    have b17 : E7 20 = .agg [S, Sk] := env_of st.inn hE 20 (by kernel_rfl)
    have g18 : Grew H H7 := (st.kept.grew (Nat.le_of_ble_eq_true (by kernel_rfl)))
    have g19 : Grew H H7 := Grew.trans (Grew.refl _) g18
    clear st hE vs ls
    obtain ⟨k20, rfl⟩ : ∃ k : Nat, i = (k : Int) := ⟨Int.toNat i, by omega⟩
    have hlt21 : k20 < ks.length := by omega
    obtain ⟨lS21, cap21, rest21, wr21, eS21, gB21⟩ := hSk.isSl hlt21
    have gS21 := g19.at gB21
    have ne22 : Apart p11 lS21 := ⟨Nat.ne_of_gt (Nat.lt_of_lt_of_le (H.lt_of_get gB21) op11)⟩
    obtain ⟨v21_0, v21_1, v21_2, v21_3, v21_4, v21_5, hm21, ho21_2, ho21_3, ho21_4, ho21_5, ha21, hb21, hne21⟩ := okG_link hok hrk k20 hlt21
    have he21 : ks.getD k20 [] = [.int .i64 (v21_0 : Int), .int .i64 (v21_1 : Int), .flt .f32 v21_2, .flt .f32 v21_3, .flt .f32 v21_4, .flt .f32 v21_5] := by rw [← hm21]; simp [List.getD_eq_getElem?_getD, hlt21]
    obtain ⟨r23_0, r23_1, r23_2, hmr23, or23_0, or23_1, or23_2⟩ := partsPose (offF_ok ms v21_0 v21_1 [.flt .f32 v21_2, .flt .f32 v21_3, .flt .f32 v21_4])
    refine run_mn (φ := φ0) (pm := pmR 1 [] 0) 20 (nk := [(.atom 0, .one), (.atom 1, .one), (.atom 2, .int .i64), (.atom 3, .bool), (.atom 4, .int .i64), (.atom 5, .int .i64), (.atom 6, .int .i64), (.atom 7, .flt .f32), (.atom 8, .flt .f32), (.atom 9, .flt .f32), (.atom 10, .flt .f32), (.atom 11, .flt .f32), (.atom 12, .flt .f32), (.atom 13, .flt .f32)]) (fs := []) (xs := [S, Sk, .int .i64 (k20 : Int), .bool (okG ms ks), .int .i64 (ks.length : Int), .int .i64 (v21_0 : Int), .int .i64 (v21_1 : Int), .flt .f32 v21_2, .flt .f32 v21_3, .flt .f32 v21_4, .flt .f32 v21_5, .flt .f32 r23_0, .flt .f32 r23_1, .flt .f32 r23_2]) (ws := [⟨lS21, (k20 * 6), [.nd 5 (.int .i64), .nd 6 (.int .i64), .nd 7 (.flt .f32), .nd 8 (.flt .f32), .nd 9 (.flt .f32), .nd 10 (.flt .f32)], false⟩, ⟨p11, 0, [.lit (.flt .f32 (some 0)), .lit (.flt .f32 (some 0)), .lit (.flt .f32 (some 0))], true⟩]) (env := [(22, .nd 1 .one), (23, .nd 2 (.int .i64)), (20, .agg [.nd 0 .one, .nd 1 .one]), (4, .ptr 1 0)]) ?_ ?_ tb_ok ap_ok ?_
    · refine midN_in ?_ .nil _ ?_ ?_ ?_
      · exact (.cons rfl (slOne hS) (.cons rfl (slOne hSk) (.cons rfl ⟨_, rfl⟩ (.cons rfl ⟨_, rfl⟩ (.cons rfl ⟨_, rfl⟩ (.cons rfl ⟨_, rfl⟩ (.cons rfl ⟨_, rfl⟩ (.cons rfl ⟨_, rfl, ho21_2⟩ (.cons rfl ⟨_, rfl, ho21_3⟩ (.cons rfl ⟨_, rfl, ho21_4⟩ (.cons rfl ⟨_, rfl, ho21_5⟩ (.cons rfl ⟨_, rfl, or23_0⟩ (.cons rfl ⟨_, rfl, or23_1⟩ (.cons rfl ⟨_, rfl, or23_2⟩ .nil))))))))))))))
      · exact (.cons (win_elem hrk gS21 hlt21 rfl (by rw [hm21]; exact (dlCons (dNd rfl ⟨_, rfl⟩) (dlCons (dNd rfl ⟨_, rfl⟩) (dlCons (dNd rfl ⟨_, rfl, ho21_2⟩) (dlCons (dNd rfl ⟨_, rfl, ho21_3⟩) (dlCons (dNd rfl ⟨_, rfl, ho21_4⟩) (dlCons (dNd rfl ⟨_, rfl, ho21_5⟩) dlNil)))))))) (.cons (win_own r13 (dlCons (dLit (by decide +kernel)) (dlCons (dLit (by decide +kernel)) (dlCons (dLit (by decide +kernel)) dlNil)))) .nil))
      · exact ⟨(fun v hv h => (by simp at hv; rcases hv with rfl <;> first | (simp at h; done) | exact Apart.ne (by assumption) | exact (Apart.ne (by assumption)).symm)), ⟨(fun v hv => (by cases hv)), trivial⟩⟩
      · exact .nil
    · exact (envEq b15 (dNd rfl (slOne hSk)) (envEq b16 (dNd rfl ⟨_, rfl⟩) (envEq b17 (dAgg (dlCons (dNd rfl (slOne hS)) (dlCons (dNd rfl (slOne hSk)) dlNil))) (envEq e12 (dPtr (l := p11) (o := 0) rfl) envNil))))
    refine all1 (by kernel_rfl) ?_
    intro vs ls H24 E24 st hE
    have b25 : E24 22 = Sk := env_of st.inn hE 22 (by kernel_rfl)
    have b26 : E24 23 = .int .i64 (k20 : Int) := env_of st.inn hE 23 (by kernel_rfl)
    have b27 : E24 20 = .agg [S, Sk] := env_of st.inn hE 20 (by kernel_rfl)
    have b28 : E24 4 = .ptr p11 0 := env_of st.inn hE 4 (by kernel_rfl)
    have g29 : Grew H7 H24 := (st.kept.grew (Nat.le_of_ble_eq_true (by kernel_rfl)))
    have g30 : Grew H H24 := Grew.trans g19 g29
    have r32 := g29.at r13
    clear st hE vs ls
    have hlt33 : k20 < ks.length := by omega
    obtain ⟨lS33, cap33, rest33, wr33, eS33, gB33⟩ := hSk.isSl hlt33
    have gS33 := g30.at gB33
    have ne34 : Apart p11 lS33 := ⟨Nat.ne_of_gt (Nat.lt_of_lt_of_le (H.lt_of_get gB33) op11)⟩
    obtain ⟨v33_0, v33_1, v33_2, v33_3, v33_4, v33_5, hm33, ho33_2, ho33_3, ho33_4, ho33_5, ha33, hb33, hne33⟩ := okG_link hok hrk k20 hlt33
    have he33 : ks.getD k20 [] = [.int .i64 (v33_0 : Int), .int .i64 (v33_1 : Int), .flt .f32 v33_2, .flt .f32 v33_3, .flt .f32 v33_4, .flt .f32 v33_5] := by rw [← hm33]; simp [List.getD_eq_getElem?_getD, hlt33]
    have hq33 := he21.symm.trans he33
    simp only [List.cons.injEq, AV.flt.injEq, AV.int.injEq, Int.natCast_inj, true_and, and_true] at hq33
    obtain ⟨rfl, rfl, rfl, rfl, rfl, rfl⟩ := hq33
    refine run_mn (φ := φ0) (pm := pmR 1 [(.ia 6 (.nd 1 .one) (.nd 2 (.int .i64)), .ptr 0 0), (.call 89 [.agg [.nd 0 .one, .nd 1 .one], .agg [.nd 14 (.int .i64), .nd 15 (.int .i64), .nd 16 (.flt .f32), .nd 17 (.flt .f32), .nd 18 (.flt .f32), .nd 19 (.flt .f32)]], .agg [.nd 11 (.flt .f32), .nd 12 (.flt .f32), .nd 13 (.flt .f32)])] 0) 20 (nk := [(.atom 0, .one), (.atom 1, .one), (.atom 2, .int .i64), (.atom 3, .bool), (.atom 4, .int .i64), (.atom 5, .int .i64), (.atom 6, .int .i64), (.atom 7, .flt .f32), (.atom 8, .flt .f32), (.atom 9, .flt .f32), (.atom 10, .flt .f32), (.atom 11, .flt .f32), (.atom 12, .flt .f32), (.atom 13, .flt .f32), (.atom 14, .int .i64), (.atom 15, .int .i64), (.atom 16, .flt .f32), (.atom 17, .flt .f32), (.atom 18, .flt .f32), (.atom 19, .flt .f32)]) (fs := []) (xs := [S, Sk, .int .i64 (k20 : Int), .bool (okG ms ks), .int .i64 (ks.length : Int), .int .i64 (v21_0 : Int), .int .i64 (v21_1 : Int), .flt .f32 v21_2, .flt .f32 v21_3, .flt .f32 v21_4, .flt .f32 v21_5, .flt .f32 r23_0, .flt .f32 r23_1, .flt .f32 r23_2, .int .i64 (v21_0 : Int), .int .i64 (v21_1 : Int), .flt .f32 v21_2, .flt .f32 v21_3, .flt .f32 v21_4, .flt .f32 v21_5]) (ws := [⟨lS33, (k20 * 6), [.nd 14 (.int .i64), .nd 15 (.int .i64), .nd 16 (.flt .f32), .nd 17 (.flt .f32), .nd 18 (.flt .f32), .nd 19 (.flt .f32)], false⟩, ⟨p11, 0, [.lit (.flt .f32 (some 0)), .lit (.flt .f32 (some 0)), .lit (.flt .f32 (some 0))], true⟩]) (env := [(22, .nd 1 .one), (23, .nd 2 (.int .i64)), (20, .agg [.nd 0 .one, .nd 1 .one]), (4, .ptr 1 0)]) ?_ ?_ tb_ok ap_ok ?_
    · refine midN_in ?_ .nil _ ?_ ?_ ?_
      · exact (.cons rfl (slOne hS) (.cons rfl (slOne hSk) (.cons rfl ⟨_, rfl⟩ (.cons rfl ⟨_, rfl⟩ (.cons rfl ⟨_, rfl⟩ (.cons rfl ⟨_, rfl⟩ (.cons rfl ⟨_, rfl⟩ (.cons rfl ⟨_, rfl, ho21_2⟩ (.cons rfl ⟨_, rfl, ho21_3⟩ (.cons rfl ⟨_, rfl, ho21_4⟩ (.cons rfl ⟨_, rfl, ho21_5⟩ (.cons rfl ⟨_, rfl, or23_0⟩ (.cons rfl ⟨_, rfl, or23_1⟩ (.cons rfl ⟨_, rfl, or23_2⟩ (.cons rfl ⟨_, rfl⟩ (.cons rfl ⟨_, rfl⟩ (.cons rfl ⟨_, rfl, ho33_2⟩ (.cons rfl ⟨_, rfl, ho33_3⟩ (.cons rfl ⟨_, rfl, ho33_4⟩ (.cons rfl ⟨_, rfl, ho33_5⟩ .nil))))))))))))))))))))
      · exact (.cons (win_elem hrk gS33 hlt33 rfl (by rw [hm33]; exact (dlCons (dNd rfl ⟨_, rfl⟩) (dlCons (dNd rfl ⟨_, rfl⟩) (dlCons (dNd rfl ⟨_, rfl, ho33_2⟩) (dlCons (dNd rfl ⟨_, rfl, ho33_3⟩) (dlCons (dNd rfl ⟨_, rfl, ho33_4⟩) (dlCons (dNd rfl ⟨_, rfl, ho33_5⟩) dlNil)))))))) (.cons (win_own r32 (dlCons (dLit (by decide +kernel)) (dlCons (dLit (by decide +kernel)) (dlCons (dLit (by decide +kernel)) dlNil)))) .nil))
      · exact ⟨(fun v hv h => (by simp at hv; rcases hv with rfl <;> first | (simp at h; done) | exact Apart.ne (by assumption) | exact (Apart.ne (by assumption)).symm)), ⟨(fun v hv => (by cases hv)), trivial⟩⟩
      · exact (.cons (rule_iaS (k := k20) (dNd rfl (slOne hSk)) eS33 (dNd rfl ⟨_, rfl⟩) hlt33 rfl) (.cons (rule_call (args := [.agg [S, Sk], .agg [.int .i64 (v21_0 : Int), .int .i64 (v21_1 : Int), .flt .f32 v21_2, .flt .f32 v21_3, .flt .f32 v21_4, .flt .f32 v21_5]]) (dlCons (dAgg (dlCons (dNd rfl (slOne hS)) (dlCons (dNd rfl (slOne hSk)) dlNil))) (dlCons (dAgg (dlCons (dNd rfl ⟨_, rfl⟩) (dlCons (dNd rfl ⟨_, rfl⟩) (dlCons (dNd rfl ⟨_, rfl, ho33_2⟩) (dlCons (dNd rfl ⟨_, rfl, ho33_3⟩) (dlCons (dNd rfl ⟨_, rfl, ho33_4⟩) (dlCons (dNd rfl ⟨_, rfl, ho33_5⟩) dlNil))))))) dlNil)) (dAgg (dlCons (dNd rfl ⟨_, rfl, or23_0⟩) (dlCons (dNd rfl ⟨_, rfl, or23_1⟩) (dlCons (dNd rfl ⟨_, rfl, or23_2⟩) dlNil)))) (fun H9 hk => (by rw [← hmr23]; exact k_residual H9 ms hr S (hS.grew (grew_own g30 hk ⟨op11, trivial⟩)) hmx Sk (slOne hSk) v21_0 v21_1 ha21 hb21 v21_2 v21_3 v21_4 v21_5 ho33_2 ho33_3 ho33_4 ho33_5))) .nil))
    · exact (envEq b25 (dNd rfl (slOne hSk)) (envEq b26 (dNd rfl ⟨_, rfl⟩) (envEq b27 (dAgg (dlCons (dNd rfl (slOne hS)) (dlCons (dNd rfl (slOne hSk)) dlNil))) (envEq b28 (dPtr (l := p11) (o := 0) rfl) envNil))))
    refine all1 (by kernel_rfl) ?_
    intro vs ls H35 E35 st hE
    refine res_ex (by kernel_rfl) (end_flat st.inn hE (.inr rfl) (a := .tuple [.agg [.flt .f32 r23_0, .flt .f32 r23_1, .flt .f32 r23_2], .int .i64 0]) (by kernel_rfl) (grew_own g30 (st.inn.kept) ⟨op11, trivial⟩) rfl ⟨?_, rfl⟩)
    unfold resF; rw [if_pos f10, if_pos (by omega)]; rw [show ((k20 : Nat) : Int).toNat = k20 from rfl, he33]; show _ = AV.tuple [.agg (offF ms v21_0 v21_1 _), .int .i64 0]; rw [hmr23]
  ·
    intro vs ls H36 E36 st hE
    have f37 : i < 0 := of_decide_eq_true (bfact (x := decide (i < 0)) st.inn 0 (by kernel_rfl))
    have f38 : (okG ms ks) = true := bfact st.inn 1 (by kernel_rfl)
    have hok := f38
    have hlen := okG_len f38
    refine res_ex (by kernel_rfl) (end_flat st.inn hE (.inr rfl) (a := .tuple [.agg [.flt .f32 (some 0), .flt .f32 (some 0), .flt .f32 (some 0)], .int .i64 2]) (by kernel_rfl) (Grew.trans (Grew.refl _) (st.kept.grew (Nat.le_of_ble_eq_true (by kernel_rfl)))) rfl ⟨?_, rfl⟩)
    unfold resF; rw [if_pos f38, if_neg (by omega)]; rfl
theorem k_spec_ResidualOf (H : AHeap) (ms : List (List AV)) (hr : Recs KP ms) (S : AV) (hS : SlL H 3 ms S) (hmx : ms.length < 2 ^ 40) (ks : List (List AV)) (hrk : Recs KL ks) (Sk : AV) (hSk : SlL H 6 ks Sk) (hmxk : ks.length < 2 ^ 40) (i : Int) : APure Try.prog 50 [.agg [S, Sk], .int .i64 i] H (.tuple [.agg (resF ms ks i).1, .int .i64 (resF ms ks i).2]) := by
  refine res_start h_spec_ResidualOf (by simp) ?_
  refine run_mn (φ := φ0) (pm := pmR 0 [] 0) 20 (nk := [(.atom 0, .one), (.atom 1, .one), (.atom 2, .int .i64)]) (fs := []) (xs := [S, Sk, .int .i64 i]) (ws := []) (env := [(0, .agg [.nd 0 .one, .nd 1 .one]), (1, .nd 2 (.int .i64))]) ?_ ?_ tb_ok ap_ok ?_
  · refine midN_in ?_ .nil _ ?_ ?_ ?_
    · exact (.cons rfl (slOne hS) (.cons rfl (slOne hSk) (.cons rfl ⟨_, rfl⟩ .nil)))
    · exact .nil
    · exact sepOk_ro rfl
    · exact .nil
  · exact (envEq rfl (dAgg (dlCons (dNd rfl (slOne hS)) (dlCons (dNd rfl (slOne hSk)) dlNil))) (envEq rfl (dNd rfl ⟨_, rfl⟩) envNil))
  refine all1 (by kernel_rfl) ?_
  intro vs ls H1 E1 st hE
  obtain ⟨p2, e3, r4, n5⟩ := ptr_of st.inn hE 2 0 (by kernel_rfl) (ds := [S, Sk]) (by kernel_rfl)
  have op2 : H.next ≤ p2 := Nat.le_trans (Nat.le_refl _) (n5 (Nat.le_of_ble_eq_true rfl))
  obtain ⟨p6, e7, r8, n9⟩ := ptr_of st.inn hE 4 1 (by kernel_rfl) (ds := [.flt .f32 (some 0), .flt .f32 (some 0), .flt .f32 (some 0)]) (by kernel_rfl)
  have op6 : H.next ≤ p6 := Nat.le_trans (Nat.le_refl _) (n9 (Nat.le_of_ble_eq_true rfl))
  have ne10 : Apart p2 p6 := ⟨ptr_ne st.inn hE 2 0 4 1 (by kernel_rfl) (by kernel_rfl) (cs := [.nd 0 .one, .nd 1 .one]) (by kernel_rfl) (by decide) e3 e7⟩
  have b11 : E1 1 = .int .i64 i := env_of st.inn hE 1 (by kernel_rfl)
  have g12 : Grew H H1 := (st.kept.grew (Nat.le_of_ble_eq_true (by kernel_rfl)))
  have g13 : Grew H H1 := Grew.trans (Grew.refl _) g12
  clear st hE vs ls
  refine res_call (d := (some 6)) (f := 67) (args := [.tmp 2]) (by kernel_rfl) (R := fun z H' => z = .bool (okG ms ks) ∧ H' = H1) ?_ ?_
  · show ACalls _ _ [E1 2] _ _
    rw [e3]
    exact k_l06Ok H1 p2 ms hr S (hS.grew g13) hmx ks hrk Sk (hSk.grew g13) hmxk r4
  rintro z H1 ⟨rfl, rfl⟩
  refine run_mn (φ := φ0) (pm := pmR 1 [(.len (.nd 1 .one), .nd 4 (.int .i64))] 0) 20 (nk := [(.atom 0, .one), (.atom 1, .one), (.atom 2, .int .i64), (.atom 3, .bool), (.atom 4, .int .i64)]) (fs := []) (xs := [S, Sk, .int .i64 i, .bool (okG ms ks), .int .i64 (ks.length : Int)]) (ws := [⟨p2, 0, [.nd 0 .one, .nd 1 .one], false⟩, ⟨p6, 0, [.lit (.flt .f32 (some 0)), .lit (.flt .f32 (some 0)), .lit (.flt .f32 (some 0))], true⟩]) (env := [(2, .ptr 0 0), (4, .ptr 1 0), (1, .nd 2 (.int .i64)), (6, .nd 3 .bool)]) ?_ ?_ tb_ok ap_ok ?_
  · refine midN_in ?_ .nil _ ?_ ?_ ?_
    · exact (.cons rfl (slOne hS) (.cons rfl (slOne hSk) (.cons rfl ⟨_, rfl⟩ (.cons rfl ⟨_, rfl⟩ (.cons rfl ⟨_, rfl⟩ .nil)))))
    · exact (.cons (win_row r4 (dlCons (dNd rfl (slOne hS)) (dlCons (dNd rfl (slOne hSk)) dlNil))) (.cons (win_own r8 (dlCons (dLit (by decide +kernel)) (dlCons (dLit (by decide +kernel)) (dlCons (dLit (by decide +kernel)) dlNil)))) .nil))
    · exact ⟨(fun v hv h => (by simp at hv; rcases hv with rfl <;> first | (simp at h; done) | exact Apart.ne (by assumption) | exact (Apart.ne (by assumption)).symm)), ⟨(fun v hv => (by cases hv)), trivial⟩⟩
    · exact (.cons (⟨_, _, (dNd rfl (slOne hSk)), (dNd rfl ⟨_, rfl⟩), slLen hSk⟩) .nil)
  · exact (envEq (put_ne rfl e3) (dPtr (l := p2) (o := 0) rfl) (envEq (put_ne rfl e7) (dPtr (l := p6) (o := 0) rfl) (envEq (put_ne rfl b11) (dNd rfl ⟨_, rfl⟩) (envEq put_same (dNd rfl ⟨_, rfl⟩) envNil))))
  refine all4 (by kernel_rfl) ?_ ?_ ?_ ?_
  ·
    intro vs ls H14 E14 st hE
    have f15 : (okG ms ks) = false := bfact st.inn 0 (by kernel_rfl)
    refine res_ex (by kernel_rfl) (end_flat st.inn hE (.inr rfl) (a := .tuple [.agg [.flt .f32 (some 0), .flt .f32 (some 0), .flt .f32 (some 0)], .int .i64 1]) (by kernel_rfl) (grew_own g13 (st.inn.kept) ⟨op6, trivial⟩) rfl ⟨?_, rfl⟩)
    unfold resF; rw [if_neg (by rw [f15]; decide)]; rfl
  ·
    intro vs ls H16 E16 st hE
    have f17 : (IntKind.wrap .i64 ((ks.length : Int) - 1)) < i := of_decide_eq_true (bfact (x := decide ((IntKind.wrap .i64 ((ks.length : Int) - 1)) < i)) st.inn 0 (by kernel_rfl))
    rw [show (IntKind.wrap .i64 ((ks.length : Int) - 1)) = ((ks.length : Int) - 1) from wrap_i64 (by omega) (by omega)] at f17
    have f18 : ¬ (i < 0) := of_decide_eq_false (bfact (x := decide (i < 0)) st.inn 1 (by kernel_rfl))
    have f19 : (okG ms ks) = true := bfact st.inn 2 (by kernel_rfl)
    have hok := f19
    have hlen := okG_len f19
    refine res_ex (by kernel_rfl) (end_flat st.inn hE (.inr rfl) (a := .tuple [.agg [.flt .f32 (some 0), .flt .f32 (some 0), .flt .f32 (some 0)], .int .i64 2]) (by kernel_rfl) (grew_own g13 (st.inn.kept) ⟨op6, trivial⟩) rfl ⟨?_, rfl⟩)
    unfold resF; rw [if_pos f19, if_neg (by omega)]; rfl
  ·
    intro vs ls H20 E20 st hE
    have f21 : ¬ ((IntKind.wrap .i64 ((ks.length : Int) - 1)) < i) := of_decide_eq_false (bfact (x := decide ((IntKind.wrap .i64 ((ks.length : Int) - 1)) < i)) st.inn 0 (by kernel_rfl))
    rw [show (IntKind.wrap .i64 ((ks.length : Int) - 1)) = ((ks.length : Int) - 1) from wrap_i64 (by omega) (by omega)] at f21
    have f22 : ¬ (i < 0) := of_decide_eq_false (bfact (x := decide (i < 0)) st.inn 1 (by kernel_rfl))
    have f23 : (okG ms ks) = true := bfact st.inn 2 (by kernel_rfl)
    have hok := f23
    have hlen := okG_len f23
    have b24 : E20 18 = Sk := env_of st.inn hE 18 (by kernel_rfl)
    have b25 : E20 19 = .int .i64 i := env_of st.inn hE 19 (by kernel_rfl)
    have b26 : E20 2 = .ptr p2 0 := env_of st.inn hE 2 (by kernel_rfl)
    have b27 : E20 4 = .ptr p6 0 := env_of st.inn hE 4 (by kernel_rfl)
    have g28 : Grew H1 H20 := (st.kept.grew (Nat.le_of_ble_eq_true (by kernel_rfl)))
    have g29 : Grew H H20 := Grew.trans g13 g28
    have r30 := g28.at r4
    have r31 := g28.at r8
    clear st hE vs ls
    obtain ⟨k32, rfl⟩ : ∃ k : Nat, i = (k : Int) := ⟨Int.toNat i, by omega⟩
    have hlt33 : k32 < ks.length := by omega
    obtain ⟨lS33, cap33, rest33, wr33, eS33, gB33⟩ := hSk.isSl hlt33
    have gS33 := g29.at gB33
    have ne34 : Apart p2 lS33 := ⟨Nat.ne_of_gt (Nat.lt_of_lt_of_le (H.lt_of_get gB33) op2)⟩
    have ne35 : Apart p6 lS33 := ⟨Nat.ne_of_gt (Nat.lt_of_lt_of_le (H.lt_of_get gB33) op6)⟩
    obtain ⟨v33_0, v33_1, v33_2, v33_3, v33_4, v33_5, hm33, ho33_2, ho33_3, ho33_4, ho33_5, ha33, hb33, hne33⟩ := okG_link hok hrk k32 hlt33
    have he33 : ks.getD k32 [] = [.int .i64 (v33_0 : Int), .int .i64 (v33_1 : Int), .flt .f32 v33_2, .flt .f32 v33_3, .flt .f32 v33_4, .flt .f32 v33_5] := by rw [← hm33]; simp [List.getD_eq_getElem?_getD, hlt33]
    obtain ⟨r36_0, r36_1, r36_2, hmr36, or36_0, or36_1, or36_2⟩ := partsPose (offF_ok ms v33_0 v33_1 [.flt .f32 v33_2, .flt .f32 v33_3, .flt .f32 v33_4])
    refine run_mn (φ := φ0) (pm := pmR 2 [(.ia 6 (.nd 1 .one) (.nd 2 (.int .i64)), .ptr 1 0), (.call 88 [.ptr 0 0, .ptr 1 0], .agg [.nd 11 (.flt .f32), .nd 12 (.flt .f32), .nd 13 (.flt .f32)])] 0) 20 (nk := [(.atom 0, .one), (.atom 1, .one), (.atom 2, .int .i64), (.atom 3, .bool), (.atom 4, .int .i64), (.atom 5, .int .i64), (.atom 6, .int .i64), (.atom 7, .flt .f32), (.atom 8, .flt .f32), (.atom 9, .flt .f32), (.atom 10, .flt .f32), (.atom 11, .flt .f32), (.atom 12, .flt .f32), (.atom 13, .flt .f32)]) (fs := []) (xs := [S, Sk, .int .i64 (k32 : Int), .bool (okG ms ks), .int .i64 (ks.length : Int), .int .i64 (v33_0 : Int), .int .i64 (v33_1 : Int), .flt .f32 v33_2, .flt .f32 v33_3, .flt .f32 v33_4, .flt .f32 v33_5, .flt .f32 r36_0, .flt .f32 r36_1, .flt .f32 r36_2]) (ws := [⟨p2, 0, [.nd 0 .one, .nd 1 .one], false⟩, ⟨lS33, (k32 * 6), [.nd 5 (.int .i64), .nd 6 (.int .i64), .nd 7 (.flt .f32), .nd 8 (.flt .f32), .nd 9 (.flt .f32), .nd 10 (.flt .f32)], false⟩, ⟨p6, 0, [.lit (.flt .f32 (some 0)), .lit (.flt .f32 (some 0)), .lit (.flt .f32 (some 0))], true⟩]) (env := [(18, .nd 1 .one), (19, .nd 2 (.int .i64)), (2, .ptr 0 0), (4, .ptr 2 0)]) ?_ ?_ tb_ok ap_ok ?_
    · refine midN_in ?_ .nil _ ?_ ?_ ?_
      · exact (.cons rfl (slOne hS) (.cons rfl (slOne hSk) (.cons rfl ⟨_, rfl⟩ (.cons rfl ⟨_, rfl⟩ (.cons rfl ⟨_, rfl⟩ (.cons rfl ⟨_, rfl⟩ (.cons rfl ⟨_, rfl⟩ (.cons rfl ⟨_, rfl, ho33_2⟩ (.cons rfl ⟨_, rfl, ho33_3⟩ (.cons rfl ⟨_, rfl, ho33_4⟩ (.cons rfl ⟨_, rfl, ho33_5⟩ (.cons rfl ⟨_, rfl, or36_0⟩ (.cons rfl ⟨_, rfl, or36_1⟩ (.cons rfl ⟨_, rfl, or36_2⟩ .nil))))))))))))))
      · exact (.cons (win_row r30 (dlCons (dNd rfl (slOne hS)) (dlCons (dNd rfl (slOne hSk)) dlNil))) (.cons (win_elem hrk gS33 hlt33 rfl (by rw [hm33]; exact (dlCons (dNd rfl ⟨_, rfl⟩) (dlCons (dNd rfl ⟨_, rfl⟩) (dlCons (dNd rfl ⟨_, rfl, ho33_2⟩) (dlCons (dNd rfl ⟨_, rfl, ho33_3⟩) (dlCons (dNd rfl ⟨_, rfl, ho33_4⟩) (dlCons (dNd rfl ⟨_, rfl, ho33_5⟩) dlNil)))))))) (.cons (win_own r31 (dlCons (dLit (by decide +kernel)) (dlCons (dLit (by decide +kernel)) (dlCons (dLit (by decide +kernel)) dlNil)))) .nil)))
      · exact ⟨(fun v hv h => (by simp at hv; rcases hv with rfl | rfl <;> first | (simp at h; done) | exact Apart.ne (by assumption) | exact (Apart.ne (by assumption)).symm)), ⟨(fun v hv h => (by simp at hv; rcases hv with rfl <;> first | (simp at h; done) | exact Apart.ne (by assumption) | exact (Apart.ne (by assumption)).symm)), ⟨(fun v hv => (by cases hv)), trivial⟩⟩⟩
      · exact (.cons (rule_iaS (k := k32) (dNd rfl (slOne hSk)) eS33 (dNd rfl ⟨_, rfl⟩) hlt33 rfl) (.cons (rule_call (args := [.ptr p2 0, .ptr lS33 ((k32 * 6) + 0)]) (dlCons (dPtr (l := p2) (o := 0) rfl) (dlCons (dPtr (l := lS33) (o := (k32 * 6)) rfl) dlNil)) (dAgg (dlCons (dNd rfl ⟨_, rfl, or36_0⟩) (dlCons (dNd rfl ⟨_, rfl, or36_1⟩) (dlCons (dNd rfl ⟨_, rfl, or36_2⟩) dlNil)))) (fun H9 hk => (by rw [← hmr36]; obtain ⟨pre, post, g1, g2⟩ := flat_split hrk.len hlt33 rest33; exact k_l06Off H9 ms hr S (hS.grew (grew_own g29 hk ⟨op6, trivial⟩)) hmx Sk (slOne hSk) v33_0 v33_1 ha33 hb33 v33_2 v33_3 v33_4 v33_5 ho33_2 ho33_3 ho33_4 ho33_5 p2 (kept_at hk r30 ⟨by first | assumption | exact Apart.symm (by assumption), trivial⟩) _ _ pre post wr33 (by rw [(kept_at hk gS33 ⟨by first | assumption | exact Apart.symm (by assumption), trivial⟩), g1, hm33]) g2))) .nil))
    · exact (envEq b24 (dNd rfl (slOne hSk)) (envEq b25 (dNd rfl ⟨_, rfl⟩) (envEq b26 (dPtr (l := p2) (o := 0) rfl) (envEq b27 (dPtr (l := p6) (o := 0) rfl) envNil))))
    refine all1 (by kernel_rfl) ?_
    intro vs ls H37 E37 st hE
    refine res_ex (by kernel_rfl) (end_flat st.inn hE (.inr rfl) (a := .tuple [.agg [.flt .f32 r36_0, .flt .f32 r36_1, .flt .f32 r36_2], .int .i64 0]) (by kernel_rfl) (grew_own g29 (st.inn.kept) ⟨op6, trivial⟩) rfl ⟨?_, rfl⟩)
    unfold resF; rw [if_pos f23, if_pos (by omega)]; rw [show ((k32 : Nat) : Int).toNat = k32 from rfl, he33]; show _ = AV.tuple [.agg (offF ms v33_0 v33_1 _), .int .i64 0]; rw [hmr36]
  ·
    intro vs ls H38 E38 st hE
    have f39 : i < 0 := of_decide_eq_true (bfact (x := decide (i < 0)) st.inn 0 (by kernel_rfl))
    have f40 : (okG ms ks) = true := bfact st.inn 1 (by kernel_rfl)
    have hok := f40
    have hlen := okG_len f40
    refine res_ex (by kernel_rfl) (end_flat st.inn hE (.inr rfl) (a := .tuple [.agg [.flt .f32 (some 0), .flt .f32 (some 0), .flt .f32 (some 0)], .int .i64 2]) (by kernel_rfl) (grew_own g13 (st.inn.kept) ⟨op6, trivial⟩) rfl ⟨?_, rfl⟩)
    unfold resF; rw [if_pos f40, if_neg (by omega)]; rfl
theorem k_impl_CostOf (H : AHeap) (ms : List (List AV)) (hr : Recs KP ms) (S : AV) (hS : SlL H 3 ms S) (hmx : ms.length < 2 ^ 40) (ks : List (List AV)) (hrk : Recs KL ks) (Sk : AV) (hSk : SlL H 6 ks Sk) (hmxk : ks.length < 2 ^ 40) : APure Try.prog 53 [.agg [S, Sk]] H (.tuple [.flt .f32 (costG ms ks).1, .int .i64 (costG ms ks).2]) := by
  refine res_start h_impl_CostOf (by simp) ?_
  refine run_mn (φ := φ0) (pm := pmR 0 [(.call 26 [.agg [.nd 0 .one, .nd 1 .one]], .nd 2 .bool)] 0) 20 (nk := [(.atom 0, .one), (.atom 1, .one), (.atom 2, .bool)]) (fs := []) (xs := [S, Sk, .bool (okG ms ks)]) (ws := []) (env := [(0, .agg [.nd 0 .one, .nd 1 .one])]) ?_ ?_ tb_ok ap_ok ?_
  · refine midN_in ?_ .nil _ ?_ ?_ ?_
    · exact (.cons rfl (slOne hS) (.cons rfl (slOne hSk) (.cons rfl ⟨_, rfl⟩ .nil)))
    · exact .nil
    · exact sepOk_ro rfl
    · exact (.cons (rule_call (args := [.agg [S, Sk]]) (dlCons (dAgg (dlCons (dNd rfl (slOne hS)) (dlCons (dNd rfl (slOne hSk)) dlNil))) dlNil) (dNd rfl ⟨_, rfl⟩) (fun H9 hk => k_impl_ValidGraph H9 ms hr S (hS.grew (Grew.trans (Grew.refl _) (hk.grew (Nat.le_refl _)))) hmx ks hrk Sk (hSk.grew (Grew.trans (Grew.refl _) (hk.grew (Nat.le_refl _)))) hmxk)) .nil)
  · exact (envEq rfl (dAgg (dlCons (dNd rfl (slOne hS)) (dlCons (dNd rfl (slOne hSk)) dlNil))) envNil)
  refine all2 (by kernel_rfl) ?_ ?_
  ·
    intro vs ls H1 E1 st hE
    have f2 : (okG ms ks) = false := bfact st.inn 0 (by kernel_rfl)
    refine res_ex (by kernel_rfl) (end_flat st.inn hE (.inr rfl) (a := .tuple [.flt .f32 (some 0), .int .i64 1]) (by kernel_rfl) (Grew.trans (Grew.refl _) (st.kept.grew (Nat.le_of_ble_eq_true (by kernel_rfl)))) rfl ⟨?_, rfl⟩)
    unfold costG; rw [if_neg (by rw [f2]; decide)]
  ·
    intro vs ls H3 E3 st hE
    have f4 : (okG ms ks) = true := bfact st.inn 0 (by kernel_rfl)
    have hok := f4
    have hlen := okG_len f4
    have b5 : E3 7 = .agg [S, Sk] := env_of st.inn hE 7 (by kernel_rfl)
    have g6 : Grew H H3 := (st.kept.grew (Nat.le_of_ble_eq_true (by kernel_rfl)))
    have g7 : Grew H H3 := Grew.trans (Grew.refl _) g6
    clear st hE vs ls
    refine res_call (d := (some 8)) (f := 91) (args := [.tmp 7]) (by kernel_rfl) (R := fun z H' => z = .flt .f32 (costF ms ks ks.length) ∧ H' = H3) ?_ ?_
    · show ACalls _ _ [E3 7] _ _
      rw [b5]
      exact k_cost H3 ms hr S (hS.grew g7) hmx ks hrk Sk (hSk.grew g7) hmxk hok
    rintro z H3 ⟨rfl, rfl⟩
    refine run_mn (φ := φ0) (pm := pmR 0 [] 0) 20 (nk := [(.atom 0, .one), (.atom 1, .one), (.atom 2, .bool), (.atom 3, .flt .f32)]) (fs := []) (xs := [S, Sk, .bool (okG ms ks), .flt .f32 (costF ms ks ks.length)]) (ws := []) (env := [(7, .agg [.nd 0 .one, .nd 1 .one]), (8, .nd 3 (.flt .f32))]) ?_ ?_ tb_ok ap_ok ?_
    · refine midN_in ?_ .nil _ ?_ ?_ ?_
      · exact (.cons rfl (slOne hS) (.cons rfl (slOne hSk) (.cons rfl ⟨_, rfl⟩ (.cons rfl ⟨_, rfl, costF_ok ms ks ks.length⟩ .nil))))
      · exact .nil
      · exact sepOk_ro rfl
      · exact .nil
    · exact (envEq (put_ne rfl b5) (dAgg (dlCons (dNd rfl (slOne hS)) (dlCons (dNd rfl (slOne hSk)) dlNil))) (envEq put_same (dNd rfl ⟨_, rfl, costF_ok ms ks ks.length⟩) envNil))
    refine all1 (by kernel_rfl) ?_
    intro vs ls H8 E8 st hE
    refine res_ex (by kernel_rfl) (end_flat st.inn hE (.inr rfl) (a := .tuple [.flt .f32 (costF ms ks ks.length), .int .i64 0]) (by kernel_rfl) (Grew.trans g7 (st.kept.grew (Nat.le_of_ble_eq_true (by kernel_rfl)))) rfl ⟨?_, rfl⟩)
    unfold costG; rw [if_pos f4]
theorem k_spec_CostOf (H : AHeap) (ms : List (List AV)) (hr : Recs KP ms) (S : AV) (hS : SlL H 3 ms S) (hmx : ms.length < 2 ^ 40) (ks : List (List AV)) (hrk : Recs KL ks) (Sk : AV) (hSk : SlL H 6 ks Sk) (hmxk : ks.length < 2 ^ 40) : APure Try.prog 52 [.agg [S, Sk]] H (.tuple [.flt .f32 (costG ms ks).1, .int .i64 (costG ms ks).2]) := by
  refine res_start h_spec_CostOf (by simp) ?_
  refine run_mn (φ := φ0) (pm := pmR 0 [] 0) 20 (nk := [(.atom 0, .one), (.atom 1, .one)]) (fs := []) (xs := [S, Sk]) (ws := []) (env := [(0, .agg [.nd 0 .one, .nd 1 .one])]) ?_ ?_ tb_ok ap_ok ?_
  · refine midN_in ?_ .nil _ ?_ ?_ ?_
    · exact (.cons rfl (slOne hS) (.cons rfl (slOne hSk) .nil))
    · exact .nil
    · exact sepOk_ro rfl
    · exact .nil
  · exact (envEq rfl (dAgg (dlCons (dNd rfl (slOne hS)) (dlCons (dNd rfl (slOne hSk)) dlNil))) envNil)
  refine all1 (by kernel_rfl) ?_
  intro vs ls H1 E1 st hE
  obtain ⟨p2, e3, r4, n5⟩ := ptr_of st.inn hE 1 0 (by kernel_rfl) (ds := [S, Sk]) (by kernel_rfl)
  have op2 : H.next ≤ p2 := Nat.le_trans (Nat.le_refl _) (n5 (Nat.le_of_ble_eq_true rfl))
  have g6 : Grew H H1 := (st.kept.grew (Nat.le_of_ble_eq_true (by kernel_rfl)))
  have g7 : Grew H H1 := Grew.trans (Grew.refl _) g6
  clear st hE vs ls
  refine res_call (d := (some 4)) (f := 67) (args := [.tmp 1]) (by kernel_rfl) (R := fun z H' => z = .bool (okG ms ks) ∧ H' = H1) ?_ ?_
  · show ACalls _ _ [E1 1] _ _
    rw [e3]
    exact k_l06Ok H1 p2 ms hr S (hS.grew g7) hmx ks hrk Sk (hSk.grew g7) hmxk r4
  rintro z H1 ⟨rfl, rfl⟩
  refine run_mn (φ := φ0) (pm := pmR 1 [] 0) 20 (nk := [(.atom 0, .one), (.atom 1, .one), (.atom 2, .bool)]) (fs := []) (xs := [S, Sk, .bool (okG ms ks)]) (ws := [⟨p2, 0, [.nd 0 .one, .nd 1 .one], false⟩]) (env := [(1, .ptr 0 0), (4, .nd 2 .bool)]) ?_ ?_ tb_ok ap_ok ?_
  · refine midN_in ?_ .nil _ ?_ ?_ ?_
    · exact (.cons rfl (slOne hS) (.cons rfl (slOne hSk) (.cons rfl ⟨_, rfl⟩ .nil)))
    · exact (.cons (win_row r4 (dlCons (dNd rfl (slOne hS)) (dlCons (dNd rfl (slOne hSk)) dlNil))) .nil)
    · exact sepOk_ro rfl
    · exact .nil
  · exact (envEq (put_ne rfl e3) (dPtr (l := p2) (o := 0) rfl) (envEq put_same (dNd rfl ⟨_, rfl⟩) envNil))
  refine all2 (by kernel_rfl) ?_ ?_
  ·
    intro vs ls H8 E8 st hE
    have f9 : (okG ms ks) = false := bfact st.inn 0 (by kernel_rfl)
    refine res_ex (by kernel_rfl) (end_flat st.inn hE (.inr rfl) (a := .tuple [.flt .f32 (some 0), .int .i64 1]) (by kernel_rfl) (Grew.trans g7 (st.kept.grew (Nat.le_of_ble_eq_true (by kernel_rfl)))) rfl ⟨?_, rfl⟩)
    unfold costG; rw [if_neg (by rw [f9]; decide)]
  ·
    intro vs ls H10 E10 st hE
    have f11 : (okG ms ks) = true := bfact st.inn 0 (by kernel_rfl)
    have hok := f11
    have hlen := okG_len f11
    have b12 : E10 1 = .ptr p2 0 := env_of st.inn hE 1 (by kernel_rfl)
    have g13 : Grew H1 H10 := (st.kept.grew (Nat.le_of_ble_eq_true (by kernel_rfl)))
    have g14 : Grew H H10 := Grew.trans g7 g13
    have r15 := g13.at r4
    clear st hE vs ls
    refine res_call (d := (some 6)) (f := 90) (args := [.tmp 1]) (by kernel_rfl) (R := fun z H' => z = .flt .f32 (costF ms ks ks.length) ∧ H' = H10) ?_ ?_
    · show ACalls _ _ [E10 1] _ _
      rw [b12]
      exact k_l06Cost H10 ms hr S (hS.grew g14) hmx ks hrk Sk (hSk.grew g14) hmxk hok p2 r15
    rintro z H10 ⟨rfl, rfl⟩
    refine run_mn (φ := φ0) (pm := pmR 1 [] 0) 20 (nk := [(.atom 0, .one), (.atom 1, .one), (.atom 2, .bool), (.atom 3, .flt .f32)]) (fs := []) (xs := [S, Sk, .bool (okG ms ks), .flt .f32 (costF ms ks ks.length)]) (ws := [⟨p2, 0, [.nd 0 .one, .nd 1 .one], false⟩]) (env := [(1, .ptr 0 0), (6, .nd 3 (.flt .f32))]) ?_ ?_ tb_ok ap_ok ?_
    · refine midN_in ?_ .nil _ ?_ ?_ ?_
      · exact (.cons rfl (slOne hS) (.cons rfl (slOne hSk) (.cons rfl ⟨_, rfl⟩ (.cons rfl ⟨_, rfl, costF_ok ms ks ks.length⟩ .nil))))
      · exact (.cons (win_row r15 (dlCons (dNd rfl (slOne hS)) (dlCons (dNd rfl (slOne hSk)) dlNil))) .nil)
      · exact sepOk_ro rfl
      · exact .nil
    · exact (envEq (put_ne rfl b12) (dPtr (l := p2) (o := 0) rfl) (envEq put_same (dNd rfl ⟨_, rfl, costF_ok ms ks ks.length⟩) envNil))
    refine all1 (by kernel_rfl) ?_
    intro vs ls H16 E16 st hE
    refine res_ex (by kernel_rfl) (end_flat st.inn hE (.inr rfl) (a := .tuple [.flt .f32 (costF ms ks ks.length), .int .i64 0]) (by kernel_rfl) (Grew.trans g14 (st.kept.grew (Nat.le_of_ble_eq_true (by kernel_rfl)))) rfl ⟨?_, rfl⟩)
    unfold costG; rw [if_pos f11]
end Go.Proofs.Ytllgmcgdkhnilaa
