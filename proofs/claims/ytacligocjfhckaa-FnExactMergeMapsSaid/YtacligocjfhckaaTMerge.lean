/- Contracts: maps merged, by both. -/
import Derived.Test.YtacligocjfhckaaTMrg
set_option linter.unusedVariables false
set_option linter.unusedSimpArgs false
namespace Go.Proofs.Ytacligocjfhckaa
open Go.Ab
set_option maxRecDepth 100000
set_option maxHeartbeats 1000000
attribute [local irreducible] Res
def tbZ : List (Nat × AFun) := tb.filter fun p => !(p.1 == 65 || p.1 == 28)
theorem tbZ_ok : TbOk Try.prog tbZ := fun f a h => tb_ok f a (List.mem_filter.1 h).1
def pmZ (fl : Nat) (ru : List (RK × SV)) (un : Nat) : Pm := ⟨fl, ru, tbZ, ap, un⟩
theorem k_impl_check (H : AHeap) (x : Option Nat) (hx : fOk .f32 x) (ms : List (List AV)) (hr : Recs KM ms) (S : AV) (hS : SlL H 9 ms S) (mxms : ms.length ≤ 1048576) (x2 : Option Nat) (hx2 : fOk .f32 x2) (ms2 : List (List AV)) (hr2 : Recs KM ms2) (S2 : AV) (hS2 : SlL H 9 ms2 S2) (mxms2 : ms2.length ≤ 1048576) : APure Try.prog 43 [.agg [.flt .f32 x, S], .agg [.flt .f32 x2, S2]] H (.int .i64 (twoV x ms x2 ms2)) := by
 refine res_start h_impl_checkMaps (by simp) ?_
 have q1 : KdsL [KF, .one, KF, .one, .bool, .bool] [.flt .f32 x, S, .flt .f32 x2, S2, .bool (okMap x ms), .bool (okMap x2 ms2)] := .cons ⟨_, rfl, hx⟩ (.cons (slOne hS) (.cons ⟨_, rfl, hx2⟩ (.cons (slOne hS2) (.cons ⟨_, rfl⟩ (.cons ⟨_, rfl⟩ .nil)))))
 refine run_mc (φ := φ0) (pm := pmZ 0 [(.call 34 [.agg [nF 0, n1 1]], nB 4), (.call 34 [.agg [nF 2, n1 3]], nB 5)] 0) 20 (ws := []) (env := [(0, .agg [nF 0, n1 1]), (1, .agg [nF 2, n1 3])]) q1 .nil (sepOk_ro rfl) (.cons (rule_call (args := [.agg [.flt .f32 x, S]]) (dL q1) (dE q1) (fun H9 hk => k_impl_ValidMap H9 x hx S ms hr (hS.grew (Grew.trans (Grew.refl _) (hk.grew (Nat.le_refl _)))) (mx40 mxms))) (.cons (rule_call (args := [.agg [.flt .f32 x2, S2]]) (dL q1) (dE q1) (fun H9 hk => k_impl_ValidMap H9 x2 hx2 S2 ms2 hr2 (hS2.grew (Grew.trans (Grew.refl _) (hk.grew (Nat.le_refl _)))) (mx40 mxms2))) .nil)) (eC q1 (.cons (t := 0) rfl (.cons (t := 1) rfl .nil))) tbZ_ok ap_ok ?_
 refine all3 (by kernel_rfl) ?_ ?_ ?_
 ·
  intro vs ls H2 E2 st hE
  have f3 : (okMap x ms) = false := bf st 0
  refine res_ex (by kernel_rfl) (end_flat st.inn hE (.inr rfl) (a := .int .i64 1) (by kernel_rfl) (Grew.trans (Grew.refl _) (gk st)) rfl ⟨?_, rfl⟩)
  unfold twoV; rw [if_neg (by rw [f3]; decide)]
 ·
  intro vs ls H4 E4 st hE
  have f5 : (okMap x2 ms2) = false := bf st 0
  have f6 : (okMap x ms) = true := bf st 1
  refine res_ex (by kernel_rfl) (end_flat st.inn hE (.inr rfl) (a := .int .i64 1) (by kernel_rfl) (Grew.trans (Grew.refl _) (gk st)) rfl ⟨?_, rfl⟩)
  unfold twoV; rw [if_pos f6, if_neg (by rw [f5]; decide)]
 ·
  intro vs ls H7 E7 st hE
  have f8 : (okMap x2 ms2) = true := bf st 0
  have f9 : (okMap x ms) = true := bf st 1
  have b10 := eo st hE 16 (.flt .f32 x)
  have b11 := eo st hE 18 (.flt .f32 x2)
  have g12 : Grew H H7 := (gk st)
  have g13 : Grew H H7 := Grew.trans (Grew.refl _) g12
  clear st hE vs ls
  refine res_call (d := (some 19)) (f := 65) (args := [.tmp 16, .tmp 18]) (by kernel_rfl) (R := fun z H' => z = .bool (decide (x = x2)) ∧ H' = H7) ?_ ?_
  ·
   show ACalls _ _ [E7 16, E7 18] _ _
   rw [b10, b11]
   exact k_SameNumberX x x2 hx hx2 (side_some (okMap_sideX hx f9)) (side_some (okMap_sideX hx2 f8)) H7
  rintro z H7 ⟨rfl, rfl⟩
  have q14 := q1.app (.cons ⟨_, rfl⟩ .nil : KdsL [.bool] [.bool (decide (x = x2))])
  refine run_mc (φ := φ0) (pm := pmZ 0 [] 0) 20 (ws := []) (env := [(16, nF 0), (18, nF 2), (19, nB 6)]) q14 .nil (sepOk_ro rfl) .nil (eC q14 (.cons (put_ne rfl b10) (.cons (put_ne rfl b11) (.cons put_same .nil)))) tbZ_ok ap_ok ?_
  refine all2 (by kernel_rfl) ?_ ?_
  ·
   intro vs ls H15 E15 st hE
   have f16 : ¬ (x = x2) := df st 0
   refine res_ex (by kernel_rfl) (end_flat st.inn hE (.inr rfl) (a := .int .i64 4) (by kernel_rfl) (Grew.trans g13 (gk st)) rfl ⟨?_, rfl⟩)
   unfold twoV; rw [if_pos f9, if_pos f8, if_neg f16]
  ·
   intro vs ls H17 E17 st hE
   have f18 : x = x2 := dt st 0
   refine res_ex (by kernel_rfl) (end_flat st.inn hE (.inr rfl) (a := .int .i64 0) (by kernel_rfl) (Grew.trans g13 (gk st)) rfl ⟨?_, rfl⟩)
   unfold twoV; rw [if_pos f9, if_pos f8, if_pos f18]
theorem k_spec_two (H : AHeap) (x : Option Nat) (hx : fOk .f32 x) (ms : List (List AV)) (hr : Recs KM ms) (S : AV) (hS : SlL H 9 ms S) (mxms : ms.length ≤ 1048576) (x2 : Option Nat) (hx2 : fOk .f32 x2) (ms2 : List (List AV)) (hr2 : Recs KM ms2) (S2 : AV) (hS2 : SlL H 9 ms2 S2) (mxms2 : ms2.length ≤ 1048576) (p q : Nat) (hp : H.get p = some (.row [.flt .f32 x, S] true)) (hq : H.get q = some (.row [.flt .f32 x2, S2] true)) : APure Try.prog 42 [.ptr p 0, .ptr q 0] H (.int .i64 (twoV x ms x2 ms2)) := by
 refine res_start h_spec_l05Two (by simp) ?_
 have q1 : KdsL [KF, .one, KF, .one] [.flt .f32 x, S, .flt .f32 x2, S2] := .cons ⟨_, rfl, hx⟩ (.cons (slOne hS) (.cons ⟨_, rfl, hx2⟩ (.cons (slOne hS2) .nil)))
 refine run_mc (φ := φ0) (pm := pmZ 2 [] 0) 20 (ws := [⟨p, 0, [nF 0, n1 1], false⟩, ⟨q, 0, [nF 2, n1 3], false⟩]) (env := [(0, .ptr 0 0), (1, .ptr 1 0)]) q1 (.cons (wR hp q1) (.cons (wR hq q1) .nil)) (sepOk_ro rfl) .nil (eC q1 (.cons (t := 0) rfl (.cons (t := 1) rfl .nil))) tbZ_ok ap_ok ?_
 refine all1 (by kernel_rfl) ?_
 intro vs ls H2 E2 st hE
 have b3 := eo st hE 5 (.ptr p 0)
 have b4 := eo st hE 1 (.ptr q 0)
 have b5 := eo st hE 0 (.ptr p 0)
 have g6 : Grew H H2 := (gk st)
 have g7 : Grew H H2 := Grew.trans (Grew.refl _) g6
 have r8 := g6.at hp
 have r9 := g6.at hq
 clear st hE vs ls
 refine res_call (d := (some 6)) (f := 28) (args := [.tmp 5]) (by kernel_rfl) (R := fun z H' => z = .bool (okMap x ms) ∧ H' = H2) ?_ ?_
 ·
  show ACalls _ _ [E2 5] _ _
  rw [b3]
  exact k_l05Ok H2 p x hx S true ms hr r8 (hS.grew g7) (mx40 mxms)
 rintro z H2 ⟨rfl, rfl⟩
 have q10 := q1.app (.cons ⟨_, rfl⟩ .nil : KdsL [.bool] [.bool (okMap x ms)])
 refine run_mc (φ := φ0) (pm := pmZ 2 [] 0) 20 (ws := [⟨p, 0, [nF 0, n1 1], false⟩, ⟨q, 0, [nF 2, n1 3], false⟩]) (env := [(5, .ptr 0 0), (1, .ptr 1 0), (0, .ptr 0 0), (6, nB 4)]) q10 (.cons (wR r8 q10) (.cons (wR r9 q10) .nil)) (sepOk_ro rfl) .nil (eC q10 (.cons (put_ne rfl b3) (.cons (put_ne rfl b4) (.cons (put_ne rfl b5) (.cons put_same .nil))))) tbZ_ok ap_ok ?_
 refine all2 (by kernel_rfl) ?_ ?_
 ·
  intro vs ls H11 E11 st hE
  have f12 : (okMap x ms) = false := bf st 0
  refine res_ex (by kernel_rfl) (end_flat st.inn hE (.inr rfl) (a := .int .i64 1) (by kernel_rfl) (Grew.trans g7 (gk st)) rfl ⟨?_, rfl⟩)
  unfold twoV; rw [if_neg (by rw [f12]; decide)]
 ·
  intro vs ls H13 E13 st hE
  have f14 : (okMap x ms) = true := bf st 0
  have b15 := eo st hE 9 (.ptr q 0)
  obtain ⟨w16, hw16⟩ : ∃ z, z = (!(okMap x ms)) := ⟨_, rfl⟩
  have b17 : E13 8 = .bool w16 := by rw [hw16]; exact eo st hE 8 _
  have b18 := eo st hE 0 (.ptr p 0)
  have b19 := eo st hE 1 (.ptr q 0)
  have g20 : Grew H2 H13 := (gk st)
  have g21 : Grew H H13 := Grew.trans g7 g20
  have r22 := g20.at r8
  have r23 := g20.at r9
  clear st hE vs ls
  have gd24 : E13 8 = .bool false := by rw [b17]; rw [hw16]; simp only [f14, Bool.not_true, Bool.not_false]
  refine res_callg (d := (some 10)) (f := 28) (args := [.tmp 9]) (g := 8) (b := false) (r := .bool (okMap x2 ms2)) (by kernel_rfl) gd24 ?_ ?_
  ·
   show ACalls _ _ [E13 9] _ _
   rw [b15]
   exact k_l05Ok H13 q x2 hx2 S2 true ms2 hr2 r23 (hS2.grew g21) (mx40 mxms2)
  have q25 := q10.app (.cons ⟨_, rfl⟩ (.cons ⟨_, rfl⟩ .nil) : KdsL [.bool, .bool] [.bool w16, .bool (okMap x2 ms2)])
  refine run_mc (φ := φ0) (pm := pmZ 2 [] 0) 20 (ws := [⟨p, 0, [nF 0, n1 1], false⟩, ⟨q, 0, [nF 2, n1 3], false⟩]) (env := [(9, .ptr 1 0), (8, .lit (.bool false)), (0, .ptr 0 0), (1, .ptr 1 0), (10, nB 6)]) q25 (.cons (wR r22 q25) (.cons (wR r23 q25) .nil)) (sepOk_ro rfl) .nil (eC q25 (.cons (put_ne rfl b15) (.cons (put_ne rfl gd24) (.cons (put_ne rfl b18) (.cons (put_ne rfl b19) (.cons put_same .nil)))))) tbZ_ok ap_ok ?_
  refine all3 (by kernel_rfl) ?_ ?_ ?_
  ·
   intro vs ls H26 E26 st hE
   have f27 : (okMap x2 ms2) = false := bf st 0
   refine res_ex (by kernel_rfl) (end_flat st.inn hE (.inr rfl) (a := .int .i64 1) (by kernel_rfl) (Grew.trans g21 (gk st)) rfl ⟨?_, rfl⟩)
   unfold twoV; rw [if_pos f14, if_neg (by rw [f27]; decide)]
  ·
   intro vs ls H28 E28 st hE
   have f29 : (ford .f32 x x2 == some .eq) = false := bf st 0
   have f30 : (okMap x2 ms2) = true := bf st 1
   refine res_ex (by kernel_rfl) (end_flat st.inn hE (.inr rfl) (a := .int .i64 4) (by kernel_rfl) (Grew.trans g21 (gk st)) rfl ⟨?_, rfl⟩)
   have he9 := side_eq hx hx2 (okMap_sideX hx f14) (okMap_sideX hx2 f30)
   rw [f29] at he9
   unfold twoV; rw [if_pos f14, if_pos f30, if_neg (of_decide_eq_false he9.symm)]
  ·
   intro vs ls H31 E31 st hE
   have f32 : (ford .f32 x x2 == some .eq) = true := bf st 0
   have f33 : (okMap x2 ms2) = true := bf st 1
   refine res_ex (by kernel_rfl) (end_flat st.inn hE (.inr rfl) (a := .int .i64 0) (by kernel_rfl) (Grew.trans g21 (gk st)) rfl ⟨?_, rfl⟩)
   have he9 := side_eq hx hx2 (okMap_sideX hx f14) (okMap_sideX hx2 f33)
   rw [f32] at he9
   unfold twoV; rw [if_pos f14, if_pos f33, if_pos (of_decide_eq_true he9.symm)]
theorem k_impl_MergeMaps (H : AHeap) (x : Option Nat) (hx : fOk .f32 x) (ms : List (List AV)) (hr : Recs KM ms) (S : AV) (hS : SlL H 9 ms S) (mxms : ms.length ≤ 1048576) (x2 : Option Nat) (hx2 : fOk .f32 x2) (ms2 : List (List AV)) (hr2 : Recs KM ms2) (S2 : AV) (hS2 : SlL H 9 ms2 S2) (mxms2 : ms2.length ≤ 1048576) : ACalls Try.prog 16 [.agg [.flt .f32 x, S], .agg [.flt .f32 x2, S2]] H fun r H' => Grew H H' ∧ ∃ S', r = .tuple [.agg [.flt .f32 (mergeV x ms x2 ms2).1, S'], .int .i64 (mergeV x ms x2 ms2).2.2] ∧ SlW H' 9 (mergeV x ms x2 ms2).2.1 S' ∧ FreshS H.next S' := by
 refine res_start h_impl_MergeMaps (by simp) ?_
 have q1 : KdsL [KF, .one, KF, .one, KI] [.flt .f32 x, S, .flt .f32 x2, S2, .int .i64 (twoV x ms x2 ms2)] := .cons ⟨_, rfl, hx⟩ (.cons (slOne hS) (.cons ⟨_, rfl, hx2⟩ (.cons (slOne hS2) (.cons ⟨_, rfl⟩ .nil))))
 refine run_mc (φ := φ0) (pm := pmR 0 [(.call 43 [.agg [nF 0, n1 1], .agg [nF 2, n1 3]], nI 4)] 0) 20 (ws := []) (env := [(0, .agg [nF 0, n1 1]), (1, .agg [nF 2, n1 3])]) q1 .nil (sepOk_ro rfl) (.cons (rule_call (args := [.agg [.flt .f32 x, S], .agg [.flt .f32 x2, S2]]) (dL q1) (dE q1) (fun H9 hk => k_impl_check H9 x hx ms hr S (hS.grew (Grew.trans (Grew.refl _) (hk.grew (Nat.le_refl _)))) mxms x2 hx2 ms2 hr2 S2 (hS2.grew (Grew.trans (Grew.refl _) (hk.grew (Nat.le_refl _)))) mxms2)) .nil) (eC q1 (.cons (t := 0) rfl (.cons (t := 1) rfl .nil))) tb_ok ap_ok ?_
 refine all2 (by kernel_rfl) ?_ ?_
 ·
  intro vs ls H2 E2 st hE
  have f3 : ¬ ((twoV x ms x2 ms2) = 0) := df st 0
  have gz : Grew H H2 := (Grew.trans (Grew.refl _) (gk st))
  have hc : mergeV x ms x2 ms2 = ((some 0), [], (twoV x ms x2 ms2)) := by
   unfold mergeV
   rw [if_neg f3]
  exact res_ex (by kernel_rfl) (end_same st.inn hE (.inr rfl) (a := .tuple [.agg [.flt .f32 (some 0), .nilslice], .int .i64 (twoV x ms x2 ms2)]) (by kernel_rfl) gz.next (by rw [hc]; exact ⟨gz, _, rfl, (.nil rfl), FreshS.nil⟩))
 ·
  intro vs ls H4 E4 st hE
  have f5 : (twoV x ms x2 ms2) = 0 := dt st 0
  have ht := twoV_0 f5
  obtain ⟨p6, e7, r8, n9⟩ := ptr_of st.inn hE 3 1 (by kernel_rfl) (ds := [.flt .f32 x2, S2]) (by kernel_rfl)
  have op6 : H.next ≤ p6 := Nat.le_trans (Nat.le_refl _) (n9 (Nat.le_of_ble_eq_true rfl))
  obtain ⟨p10, e11, r12, n13⟩ := ptr_of st.inn hE 4 2 (by kernel_rfl) (ds := [.flt .f32 (some 0), .nilslice]) (by kernel_rfl)
  have op10 : H.next ≤ p10 := Nat.le_trans (Nat.le_refl _) (n13 (Nat.le_of_ble_eq_true rfl))
  have ne14 : Apart p6 p10 := ⟨ptr_ne st.inn hE 3 1 4 2 (by kernel_rfl) (by kernel_rfl) (cs := [.nd 2 (.flt .f32), .nd 3 .one]) (by kernel_rfl) (by decide) e7 e11⟩
  have b15 := eo st hE 17 (.agg [.flt .f32 x, S])
  have g16 : Grew H H4 := (gk st)
  have g17 : Grew H H4 := Grew.trans (Grew.refl _) g16
  clear st hE vs ls
  refine res_call (d := (some 18)) (f := 36) (args := [.tmp 17]) (by kernel_rfl) (R := fun z H' => Grew H4 H' ∧ ∃ S', z = .agg [.flt .f32 x, S'] ∧ SlF H' 9 ms S' ∧ FreshS H4.next S') ?_ ?_
  ·
   show ACalls _ _ [E4 17] _ _
   rw [b15]
   exact k_ownMap H4 x hx ms hr (S) (hS.grew g17) mxms
  rintro z H18 ⟨gH18, S19, rfl, sS19, fS19⟩
  have ne20 : ApartL (S19) p6 := fS19.apartL (H4.lt_of_get r8)
  have ne21 : ApartL (S19) p10 := fS19.apartL (H4.lt_of_get r12)
  have fr22 : FreshS H.next (S19) := fS19.mono g17.next
  have g23 : Grew H H18 := Grew.trans g17 gH18
  have r24 := gH18.at r8
  have r25 := gH18.at r12
  have q26 := q1.app (.cons sS19.one (.cons ⟨_, rfl⟩ .nil) : KdsL [.one, KI] [S19, .int .i64 (ms2.length : Int)])
  refine run_mc (φ := φ0) (pm := pmR 2 [(.len (n1 3), nI 6)] 0) 20 (ws := [⟨p6, 0, [nF 2, n1 3], false⟩, ⟨p10, 0, [.lit (.flt .f32 (some 0)), .lit .nilslice], false⟩]) (env := [(17, .agg [nF 0, n1 1]), (3, .ptr 0 0), (4, .ptr 1 0), (18, .agg [nF 0, n1 5])]) q26 (.cons (wR r24 q26) (.cons (wR r25 q26) .nil)) (sepOk_ro rfl) (.cons (⟨_, _, (dE q26), (dE q26), slLen hS2⟩) .nil) (eC q26 (.cons (put_ne rfl b15) (.cons (put_ne rfl e7) (.cons (put_ne rfl e11) (.cons put_same .nil))))) tb_ok ap_ok ?_
  refine all1 (by kernel_rfl) ?_
  intro vs ls H27 E27 st hE
  obtain ⟨p28, e29, r30, n31⟩ := ptr_of st.inn hE 7 2 (by kernel_rfl) (ds := [.flt .f32 x, S19]) (by kernel_rfl)
  have op28 : H.next ≤ p28 := Nat.le_trans g23.next (n31 (Nat.le_of_ble_eq_true rfl))
  have ne32 := apn r24 (n31 (Nat.le_of_ble_eq_true rfl))
  have ne33 := apn r25 (n31 (Nat.le_of_ble_eq_true rfl))
  have ne34 : ApartL (S19) p28 := sS19.apart_new (n31 (Nat.le_of_ble_eq_true rfl))
  have b35 := eo st hE 22 (.int .i64 0)
  have b36 := eo st hE 21 (.int .i64 (ms2.length : Int))
  have b37 := eo st hE 20 S2
  have b38 := eo st hE 4 (.ptr p10 0)
  have g39 : Grew H18 H27 := (gk st)
  have g40 : Grew H H27 := Grew.trans g23 g39
  have r42 := g39.at r25
  have s43 := sS19.grew g39
  clear st hE vs ls
  refine res_loop (by kernel_rfl) (fun z E H' => ∃ (i : Nat) (acc44_0 : AV), z + i = ms2.length ∧ E 21 = .int .i64 (ms2.length : Int) ∧ E 20 = S2 ∧ E 7 = .ptr p28 0 ∧ E 4 = .ptr p10 0 ∧ E 22 = .int .i64 (i : Int) ∧ Grew H H' ∧ H'.get p10 = some (.row [.flt .f32 (some 0), .nilslice] true) ∧ H'.get p28 = some (.row [.flt .f32 x, acc44_0] true) ∧ SlF H' 9 (mrg ms ms2 i) acc44_0 ∧ FreshS H.next acc44_0 ∧ ApartL acc44_0 p10 ∧ ApartL acc44_0 p28 ∧ (mrg ms ms2 i).length ≤ 200) (ms2.length) ⟨0, S19, by omega, b36, b37, e29, b38, b35, g40, r42, r30, s43, fr22, (by assumption), (by assumption), (okMap_len ht.1)⟩ ?_
  rintro z44 Ei44 Hi44 ⟨i44, acc44_0, hz44, c44_21, c44_20, c44_7, c44_4, ci44, gt44, r44_0, r44_1, s44_0, f44_0, ap44_0_0, ap44_0_1, iv44⟩
  have mxm : (mrg ms ms2 i44).length ≤ 1048576 := Nat.le_trans iv44 (by decide)
  have q45 := q26.app (.cons ⟨_, rfl⟩ (.cons s44_0.one .nil) : KdsL [KI, .one] [.int .i64 (i44 : Int), acc44_0])
  refine run_mc (φ := φ0) (pm := pmR 2 [] 0) 20 (ws := [⟨p10, 0, [.lit (.flt .f32 (some 0)), .lit .nilslice], false⟩, ⟨p28, 0, [nF 0, n1 8], false⟩]) (env := [(21, nI 6), (20, n1 3), (7, .ptr 1 0), (4, .ptr 0 0), (22, nI 7)]) q45 (.cons (wR r44_0 q45) (.cons (wR r44_1 q45) .nil)) (sepOk_ro rfl) .nil (eC q45 (.cons c44_21 (.cons c44_20 (.cons c44_7 (.cons c44_4 (.cons ci44 .nil)))))) tb_ok ap_ok ?_
  refine all2 (by kernel_rfl) ?_ ?_
  ·
   intro vs ls H46 E46 st hE
   have f47 : (i44 : Int) < (ms2.length : Int) := dt st 0
   have b48 := eo st hE 20 S2
   have b49 := eo st hE 22 (.int .i64 (i44 : Int))
   have b50 := eo st hE 7 (.ptr p28 0)
   have b51 := eo st hE 4 (.ptr p10 0)
   have b52 := eo st hE 21 (.int .i64 (ms2.length : Int))
   have g53 : Grew Hi44 H46 := (gk st)
   have g54 : Grew H H46 := Grew.trans gt44 g53
   have r55 := g53.at r44_0
   have r56 := g53.at r44_1
   have s57 := s44_0.grew g53
   clear st hE vs ls
   have hlt58 : i44 < ms2.length := by omega
   obtain ⟨lS58, cap58, rest58, wr58, eS58, gB58⟩ := hS2.isSl hlt58
   have gS58 := g54.at gB58
   have ne59 := apn gB58 op10
   have ne60 := apn gB58 op28
   obtain ⟨v58_0, v58_1, v58_2, v58_3, v58_4, v58_5, v58_6, v58_7, v58_8, hm58, ho58_3, ho58_4, ho58_5, ho58_6⟩ := partsMark (hr2.get hlt58)
   have he58 : ms2.getD i44 [] = [.int .i32 v58_0, .int .i32 v58_1, .int .i32 v58_2, .flt .f32 v58_3, .flt .f32 v58_4, .flt .f32 v58_5, .flt .f32 v58_6, .int .i64 v58_7, .int .i64 v58_8] := by rw [← hm58, List.getD_eq_getElem?_getD, List.getElem?_eq_getElem hlt58]; rfl
   have q61 := q45.app (.cons ⟨_, rfl⟩ (.cons ⟨_, rfl⟩ (.cons ⟨_, rfl⟩ (.cons ⟨_, rfl, ho58_3⟩ (.cons ⟨_, rfl, ho58_4⟩ (.cons ⟨_, rfl, ho58_5⟩ (.cons ⟨_, rfl, ho58_6⟩ (.cons ⟨_, rfl⟩ (.cons ⟨_, rfl⟩ .nil)))))))) : KdsL [K2, K2, K2, KF, KF, KF, KF, KI, KI] [.int .i32 v58_0, .int .i32 v58_1, .int .i32 v58_2, .flt .f32 v58_3, .flt .f32 v58_4, .flt .f32 v58_5, .flt .f32 v58_6, .int .i64 v58_7, .int .i64 v58_8])
   refine run_mc (φ := φ0) (pm := pmR 3 [(.ia 9 (n1 3) (nI 7), .ptr 2 0)] 0) 20 (ws := [⟨p10, 0, [.lit (.flt .f32 (some 0)), .lit .nilslice], false⟩, ⟨p28, 0, [nF 0, n1 8], false⟩, ⟨lS58, (i44 * 9), [n2 9, n2 10, n2 11, nF 12, nF 13, nF 14, nF 15, nI 16, nI 17], false⟩]) (env := [(20, n1 3), (22, nI 7), (7, .ptr 1 0), (4, .ptr 0 0), (21, nI 6)]) q61 (.cons (wR r55 q61) (.cons (wR r56 q61) (.cons (win_elem hr2 gS58 hlt58 rfl (by rw [hm58]; exact (dL q61))) .nil))) (sepOk_ro rfl) (.cons (rule_iaS (k := i44) (dE q61) eS58 (dE q61) hlt58 rfl) .nil) (eC q61 (.cons b48 (.cons b49 (.cons b50 (.cons b51 (.cons b52 .nil)))))) tb_ok ap_ok ?_
   refine all1 (by kernel_rfl) ?_
   intro vs ls H62 E62 st hE
   have b63 := eo st hE 7 (.ptr p28 0)
   have b64 := eo st hE 26 (.agg [.int .i32 v58_0, .int .i32 v58_1, .int .i32 v58_2, .flt .f32 v58_3, .flt .f32 v58_4, .flt .f32 v58_5, .flt .f32 v58_6, .int .i64 v58_7, .int .i64 v58_8])
   have b65 := eo st hE 4 (.ptr p10 0)
   have b66 := eo st hE 22 (.int .i64 (i44 : Int))
   have b67 := eo st hE 21 (.int .i64 (ms2.length : Int))
   have b68 := eo st hE 20 S2
   have g69 : Grew H46 H62 := (gk st)
   have g70 : Grew H H62 := Grew.trans g54 g69
   have r71 := g69.at r55
   have r72 := g69.at r56
   have s74 := s57.grew g69
   clear st hE vs ls
   refine res_call (d := some 27) (f := 37) (args := [.tmp 7, .tmp 26]) (by kernel_rfl) (R := fun z H' => Only2 (PT p28) (acc44_0) H62 H' ∧ z = .bool (putOk (mrg ms ms2 i44) [.int .i32 v58_0, .int .i32 v58_1, .int .i32 v58_2, .flt .f32 v58_3, .flt .f32 v58_4, .flt .f32 v58_5, .flt .f32 v58_6, .int .i64 v58_7, .int .i64 v58_8]) ∧ (putOk (mrg ms ms2 i44) [.int .i32 v58_0, .int .i32 v58_1, .int .i32 v58_2, .flt .f32 v58_3, .flt .f32 v58_4, .flt .f32 v58_5, .flt .f32 v58_6, .int .i64 v58_7, .int .i64 v58_8] = true → ∃ S', H'.get p28 = some (.row [.flt .f32 x, S'] true) ∧ SlF H' 9 (putL (mrg ms ms2 i44) [.int .i32 v58_0, .int .i32 v58_1, .int .i32 v58_2, .flt .f32 v58_3, .flt .f32 v58_4, .flt .f32 v58_5, .flt .f32 v58_6, .int .i64 v58_7, .int .i64 v58_8]) S' ∧ FromS H62.next (acc44_0) S')) ?_ ?_
   ·
    show ACalls _ _ [E62 7, E62 26] _ _
    rw [b63, b64]
    exact k_put H62 x hx (mrg ms ms2 i44) (mrg_recs hr hr2 i44 (by omega)) (acc44_0) s74 (mrg_sort hr hr2 (okMap_sort ht.1) i44 (by omega)) mxm p28 r72 (by assumption) v58_0 v58_1 v58_2 v58_3 v58_4 v58_5 v58_6 v58_7 v58_8 ho58_3 ho58_4 ho58_5 ho58_6
   rintro z75 H75 ⟨o75, hz75, k75⟩
   have g76 : Grew H H75 := Only2.own g70 (FreshS.of_le op28) f44_0 o75
   have r77 := o75.at r71 (ApartL.of (by first | assumption | exact Apart.symm (by assumption))) (by assumption)
   cases hb75 : putOk (mrg ms ms2 i44) [.int .i32 v58_0, .int .i32 v58_1, .int .i32 v58_2, .flt .f32 v58_3, .flt .f32 v58_4, .flt .f32 v58_5, .flt .f32 v58_6, .int .i64 v58_7, .int .i64 v58_8] with
   | false =>
    rw [hb75] at hz75; subst hz75
    refine run_mc (φ := φ0) (pm := pmR 0 [] 0) 20 (ws := [⟨p10, 0, [.lit (.flt .f32 (some 0)), .lit .nilslice], true⟩]) (env := [(26, .agg [n2 9, n2 10, n2 11, nF 12, nF 13, nF 14, nF 15, nI 16, nI 17]), (4, .ptr 0 0), (22, nI 7), (21, nI 6), (20, n1 3), (27, .lit (.bool false))]) q61 (.cons (wO r77 q61) .nil) (sepD (by repeat (first | exact .nil | refine .cons (by first | assumption | exact Apart.symm (by assumption)) ?_))) .nil (eC q61 (.cons (put_ne rfl b64) (.cons (put_ne rfl b65) (.cons (put_ne rfl b66) (.cons (put_ne rfl b67) (.cons (put_ne rfl b68) (.cons put_same .nil))))))) tb_ok ap_ok ?_
    refine all1 (by kernel_rfl) ?_
    intro vs ls H79 E79 st hE
    have gz : Grew H H79 := (grew_own g76 (st.inn.kept) ⟨op10, trivial⟩)
    have hc : mergeV x ms x2 ms2 = ((some 0), [], 3) := by
     unfold mergeV
     rw [if_pos f5, if_neg (mrg_bad (by omega) (by rw [he58]; exact hb75) iv44)]
    exact res_ret (by kernel_rfl) (end_same st.inn hE (.inr rfl) (a := .tuple [.agg [.flt .f32 (some 0), .nilslice], .int .i64 3]) (by kernel_rfl) gz.next (by rw [hc]; exact ⟨gz, _, rfl, (.nil rfl), FreshS.nil⟩))
   | true =>
    rw [hb75] at hz75; subst hz75
    obtain ⟨S80, rS80, sS80, fS80⟩ := k75 hb75
    have fr81 : FreshS H.next S80 := fS80.fresh f44_0 g70.next
    have ne82 : ApartL (S80) p10 := fS80.apartL (H62.lt_of_get r71) (by assumption)
    have ne83 : ApartL (S80) p28 := fS80.apartL (H62.lt_of_get r72) (by assumption)
    have q84 := q61.app (.cons sS80.one .nil : KdsL [.one] [S80])
    refine run_mc (φ := φ0) (pm := pmR 2 [] 0) 20 (ws := [⟨p10, 0, [.lit (.flt .f32 (some 0)), .lit .nilslice], false⟩, ⟨p28, 0, [nF 0, n1 18], false⟩]) (env := [(7, .ptr 1 0), (26, .agg [n2 9, n2 10, n2 11, nF 12, nF 13, nF 14, nF 15, nI 16, nI 17]), (4, .ptr 0 0), (22, nI 7), (21, nI 6), (20, n1 3), (27, .lit (.bool true))]) q84 (.cons (wR r77 q84) (.cons (wR rS80 q84) .nil)) (sepOk_ro rfl) .nil (eC q84 (.cons (put_ne rfl b63) (.cons (put_ne rfl b64) (.cons (put_ne rfl b65) (.cons (put_ne rfl b66) (.cons (put_ne rfl b67) (.cons (put_ne rfl b68) (.cons put_same .nil)))))))) tb_ok ap_ok ?_
    refine all1 (by kernel_rfl) ?_
    intro vs ls H85 E85 st hE
    obtain ⟨w86, hw86⟩ : ∃ z, z = (IntKind.wrap .i64 ((i44 : Int) + 1)) := ⟨_, rfl⟩
    have b87 : E85 22 = .int .i64 w86 := by rw [hw86]; exact eo st hE 22 _
    have b88 := eo st hE 21 (.int .i64 (ms2.length : Int))
    have b89 := eo st hE 20 S2
    have b90 := eo st hE 7 (.ptr p28 0)
    have b91 := eo st hE 4 (.ptr p10 0)
    have g92 : Grew H75 H85 := (gk st)
    have g93 : Grew H H85 := Grew.trans g76 g92
    have r94 := g92.at r77
    have r95 := g92.at rS80
    have s96 := sS80.grew g92
    clear st hE vs ls
    have hz9 : z44 - 1 < z44 := by omega
    have hy9 : z44 - 1 + (i44 + 1) = ms2.length := by omega
    have hi9 : E85 22 = .int .i64 ((i44 + 1 : Nat) : Int) := by rw [b87, hw86, wrap64 (by omega)]
    have hst : (mrg ms ms2 (i44 + 1)) = (putL (mrg ms ms2 i44) [.int .i32 v58_0, .int .i32 v58_1, .int .i32 v58_2, .flt .f32 v58_3, .flt .f32 v58_4, .flt .f32 v58_5, .flt .f32 v58_6, .int .i64 v58_7, .int .i64 v58_8]) := by show putL _ (ms2.getD i44 []) = _; rw [he58]
    exact res_norm (by kernel_rfl) ⟨z44 - 1, hz9, i44 + 1, S80, hy9, b88, b89, b90, b91, hi9, g93, r94, r95, (by rw [hst]; exact s96), fr81, (by assumption), (by assumption), (mrg_good (by rw [he58]; exact hb75) iv44)⟩
  ·
   intro vs ls H97 E97 st hE
   have f98 : ¬ ((i44 : Int) < (ms2.length : Int)) := df st 0
   have b99 := eo st hE 22 (.int .i64 (i44 : Int))
   have b100 := eo st hE 21 (.int .i64 (ms2.length : Int))
   obtain ⟨w101, hw101⟩ : ∃ z, z = (decide ((i44 : Int) < (ms2.length : Int))) := ⟨_, rfl⟩
   have b102 : E97 23 = .bool w101 := by rw [hw101]; exact eo st hE 23 _
   have b103 := eo st hE 20 S2
   have b104 := eo st hE 7 (.ptr p28 0)
   have b105 := eo st hE 4 (.ptr p10 0)
   have g106 : Grew Hi44 H97 := (gk st)
   have g107 : Grew H H97 := Grew.trans gt44 g106
   have r108 := g106.at r44_0
   have r109 := g106.at r44_1
   have s110 := s44_0.grew g106
   clear st hE vs ls
   refine res_exit (id := 0) (by kernel_rfl) ?_
   have q111 := q45.app (.cons ⟨_, rfl⟩ .nil : KdsL [.bool] [.bool w101])
   refine run_mc (φ := φ0) (pm := pmR 1 [] 0) 20 (ws := [⟨p28, 0, [nF 0, n1 8], false⟩, ⟨p10, 0, [.lit (.flt .f32 (some 0)), .lit .nilslice], true⟩]) (env := [(22, nI 7), (21, nI 6), (23, nB 9), (20, n1 3), (7, .ptr 0 0), (4, .ptr 1 0)]) q111 (.cons (wR r109 q111) (.cons (wO r108 q111) .nil)) (sepD (by repeat (first | exact .nil | refine .cons (by first | assumption | exact Apart.symm (by assumption)) ?_))) .nil (eC q111 (.cons b99 (.cons b100 (.cons b102 (.cons b103 (.cons b104 (.cons b105 .nil))))))) tb_ok ap_ok ?_
   refine all1 (by kernel_rfl) ?_
   intro vs ls H112 E112 st hE
   have gz : Grew H H112 := (grew_own g107 (st.inn.kept) ⟨op10, trivial⟩)
   have hc : mergeV x ms x2 ms2 = (x, (mrg ms ms2 i44), 0) := by
    unfold mergeV
    rw [if_pos f5, show ms2.length = i44 by omega, if_pos iv44]
   exact res_ex (by kernel_rfl) (end_same st.inn hE (.inr rfl) (a := .tuple [.agg [.flt .f32 x, acc44_0], .int .i64 0]) (by kernel_rfl) gz.next (by rw [hc]; exact ⟨gz, _, rfl, ((s110.keep st.inn.kept ⟨by assumption, trivial⟩)).toW, f44_0⟩))
def tbT : List (Nat × AFun) := tb.filter fun p => !(p.1 == 42)
theorem tbT_ok : TbOk Try.prog tbT := fun f a h => tb_ok f a (List.mem_filter.1 h).1
def pmT (fl : Nat) (ru : List (RK × SV)) (un : Nat) : Pm := ⟨fl, ru, tbT, ap, un⟩
theorem k_spec_MergeMaps (H : AHeap) (x : Option Nat) (hx : fOk .f32 x) (ms : List (List AV)) (hr : Recs KM ms) (S : AV) (hS : SlL H 9 ms S) (mxms : ms.length ≤ 1048576) (x2 : Option Nat) (hx2 : fOk .f32 x2) (ms2 : List (List AV)) (hr2 : Recs KM ms2) (S2 : AV) (hS2 : SlL H 9 ms2 S2) (mxms2 : ms2.length ≤ 1048576) : ACalls Try.prog 15 [.agg [.flt .f32 x, S], .agg [.flt .f32 x2, S2]] H fun r H' => Grew H H' ∧ ∃ S', r = .tuple [.agg [.flt .f32 (mergeV x ms x2 ms2).1, S'], .int .i64 (mergeV x ms x2 ms2).2.2] ∧ SlW H' 9 (mergeV x ms x2 ms2).2.1 S' ∧ FreshS H.next S' := by
 refine res_start h_spec_MergeMaps (by simp) ?_
 have q1 : KdsL [KF, .one, KF, .one] [.flt .f32 x, S, .flt .f32 x2, S2] := .cons ⟨_, rfl, hx⟩ (.cons (slOne hS) (.cons ⟨_, rfl, hx2⟩ (.cons (slOne hS2) .nil)))
 refine run_mc (φ := φ0) (pm := pmT 0 [] 0) 20 (ws := []) (env := [(0, .agg [nF 0, n1 1]), (1, .agg [nF 2, n1 3])]) q1 .nil (sepOk_ro rfl) .nil (eC q1 (.cons (t := 0) rfl (.cons (t := 1) rfl .nil))) tbT_ok ap_ok ?_
 refine all1 (by kernel_rfl) ?_
 intro vs ls H2 E2 st hE
 obtain ⟨p3, e4, r5, n6⟩ := ptr_of st.inn hE 2 0 (by kernel_rfl) (ds := [.flt .f32 x, S]) (by kernel_rfl)
 have op3 : H.next ≤ p3 := Nat.le_trans (Nat.le_refl _) (n6 (Nat.le_of_ble_eq_true rfl))
 obtain ⟨p7, e8, r9, n10⟩ := ptr_of st.inn hE 3 1 (by kernel_rfl) (ds := [.flt .f32 x2, S2]) (by kernel_rfl)
 have op7 : H.next ≤ p7 := Nat.le_trans (Nat.le_refl _) (n10 (Nat.le_of_ble_eq_true rfl))
 obtain ⟨p11, e12, r13, n14⟩ := ptr_of st.inn hE 4 2 (by kernel_rfl) (ds := [.flt .f32 (some 0), .nilslice]) (by kernel_rfl)
 have op11 : H.next ≤ p11 := Nat.le_trans (Nat.le_refl _) (n14 (Nat.le_of_ble_eq_true rfl))
 have ne15 : Apart p3 p7 := ⟨ptr_ne st.inn hE 2 0 3 1 (by kernel_rfl) (by kernel_rfl) (cs := [.nd 0 (.flt .f32), .nd 1 .one]) (by kernel_rfl) (by decide) e4 e8⟩
 have ne16 : Apart p3 p11 := ⟨ptr_ne st.inn hE 2 0 4 2 (by kernel_rfl) (by kernel_rfl) (cs := [.nd 0 (.flt .f32), .nd 1 .one]) (by kernel_rfl) (by decide) e4 e12⟩
 have ne17 : Apart p7 p11 := ⟨ptr_ne st.inn hE 3 1 4 2 (by kernel_rfl) (by kernel_rfl) (cs := [.nd 2 (.flt .f32), .nd 3 .one]) (by kernel_rfl) (by decide) e8 e12⟩
 have g18 : Grew H H2 := (gk st)
 have g19 : Grew H H2 := Grew.trans (Grew.refl _) g18
 clear st hE vs ls
 refine res_call (d := (some 9)) (f := 42) (args := [.tmp 2, .tmp 3]) (by kernel_rfl) (R := fun z H' => z = .int .i64 (twoV x ms x2 ms2) ∧ H' = H2) ?_ ?_
 ·
  show ACalls _ _ [E2 2, E2 3] _ _
  rw [e4, e8]
  exact k_spec_two H2 x hx ms hr S (hS.grew g19) mxms x2 hx2 ms2 hr2 S2 (hS2.grew g19) mxms2 p3 p7 r5 r9
 rintro z H2 ⟨rfl, rfl⟩
 have q20 := q1.app (.cons ⟨_, rfl⟩ .nil : KdsL [KI] [.int .i64 (twoV x ms x2 ms2)])
 refine run_mc (φ := φ0) (pm := pmT 2 [] 0) 20 (ws := [⟨p3, 0, [nF 0, n1 1], false⟩, ⟨p7, 0, [nF 2, n1 3], false⟩, ⟨p11, 0, [.lit (.flt .f32 (some 0)), .lit .nilslice], true⟩]) (env := [(2, .ptr 0 0), (3, .ptr 1 0), (4, .ptr 2 0), (9, nI 4)]) q20 (.cons (wR r5 q20) (.cons (wR r9 q20) (.cons (wO r13 q20) .nil))) (sepD (by repeat (first | exact .nil | refine .cons (by first | assumption | exact Apart.symm (by assumption)) ?_))) .nil (eC q20 (.cons (put_ne rfl e4) (.cons (put_ne rfl e8) (.cons (put_ne rfl e12) (.cons put_same .nil))))) tbT_ok ap_ok ?_
 refine all2 (by kernel_rfl) ?_ ?_
 ·
  intro vs ls H21 E21 st hE
  have f22 : ¬ ((twoV x ms x2 ms2) = 0) := df st 0
  have gz : Grew H H21 := (grew_own g19 (st.inn.kept) ⟨op11, trivial⟩)
  have hc : mergeV x ms x2 ms2 = ((some 0), [], (twoV x ms x2 ms2)) := by
   unfold mergeV
   rw [if_neg f22]
  exact res_ex (by kernel_rfl) (end_same st.inn hE (.inr rfl) (a := .tuple [.agg [.flt .f32 (some 0), .nilslice], .int .i64 (twoV x ms x2 ms2)]) (by kernel_rfl) gz.next (by rw [hc]; exact ⟨gz, _, rfl, (.nil rfl), FreshS.nil⟩))
 ·
  intro vs ls H23 E23 st hE
  have f24 : (twoV x ms x2 ms2) = 0 := dt st 0
  have ht := twoV_0 f24
  obtain ⟨p25, e26, r27, n28⟩ := sl_of st.inn hE 14 3 0 0 9 (by kernel_rfl) (ds := []) (by kernel_rfl)
  have op25 : H.next ≤ p25 := Nat.le_trans g19.next (n28 (Nat.le_of_ble_eq_true rfl))
  have ne29 := apn r5 (n28 (Nat.le_of_ble_eq_true rfl))
  have ne30 := apn r9 (n28 (Nat.le_of_ble_eq_true rfl))
  have ne31 := apn r13 (n28 (Nat.le_of_ble_eq_true rfl))
  have b32 := eo st hE 16 S
  have b33 := eo st hE 3 (.ptr p7 0)
  have b34 := eo st hE 2 (.ptr p3 0)
  have b35 := eo st hE 4 (.ptr p11 0)
  have g36 : Grew H2 H23 := (gk st)
  have g37 : Grew H H23 := Grew.trans g19 g36
  have r38 := g36.at r5
  have r39 := g36.at r9
  have r40 := g36.at r13
  clear st hE vs ls
  have sx43 : SlF H23 9 [] (.slice p25 0 0 0 9) := .sl (by simpa using r27) rfl (Nat.le_refl _)
  refine res_append0 (d := (some 17)) (sz := 9) (bytes := 48) (x := .tmp 14) (y := .tmp 16) (by kernel_rfl) (S := .slice p25 0 0 0 9) (ys := ms) (by show E23 14 = _; exact e26) sx43 (.inr ⟨_, rfl⟩) (by show srcCells _ _ (E23 16) = _; rw [b32]; exact src_list hr.len (hS.grew g37)) (recs_one hr rfl) (by first | omega | (simp only [List.length_append, List.length_cons, List.length_nil, List.length_drop, List.length_take]; omega)) ?_
  intro S41 H42 sS41 fS41 oS41
  have ne44 : ApartL (S41) p3 := fS41.apartL (H23.lt_of_get r38) (ApartL.of (by first | assumption | exact Apart.symm (by assumption)))
  have ne45 : ApartL (S41) p7 := fS41.apartL (H23.lt_of_get r39) (ApartL.of (by first | assumption | exact Apart.symm (by assumption)))
  have ne46 : ApartL (S41) p11 := fS41.apartL (H23.lt_of_get r40) (ApartL.of (by first | assumption | exact Apart.symm (by assumption)))
  have fr47 : FreshS H.next (S41) := fS41.fresh (FreshS.of_le op25) g37.next
  have g48 : Grew H H42 := Grew.trans g37 oS41
  have r49 := oS41.at r38
  have r50 := oS41.at r39
  have r52 := oS41.at r40
  have q53 := q20.app (.cons sS41.one .nil : KdsL [.one] [S41])
  refine run_mc (φ := φ0) (pm := pmT 2 [] 0) 20 (ws := [⟨p3, 0, [nF 0, n1 1], false⟩, ⟨p7, 0, [nF 2, n1 3], false⟩, ⟨p11, 0, [.lit (.flt .f32 (some 0)), .lit .nilslice], true⟩]) (env := [(16, n1 1), (3, .ptr 1 0), (2, .ptr 0 0), (4, .ptr 2 0), (17, n1 5)]) q53 (.cons (wR r49 q53) (.cons (wR r50 q53) (.cons (wO r52 q53) .nil))) (sepD (by repeat (first | exact .nil | refine .cons (by first | assumption | exact Apart.symm (by assumption)) ?_))) .nil (eC q53 (.cons (put_ne rfl b32) (.cons (put_ne rfl b33) (.cons (put_ne rfl b34) (.cons (put_ne rfl b35) (.cons put_same .nil)))))) tbT_ok ap_ok ?_
  refine all1 (by kernel_rfl) ?_
  intro vs ls H54 E54 st hE
  have b55 := eo st hE 8 (.int .i64 0)
  have b56 := eo st hE 3 (.ptr p7 0)
  have b57 := eo st hE 7 S41
  have b58 := eo st hE 2 (.ptr p3 0)
  have b59 := eo st hE 4 (.ptr p11 0)
  have g60 : Grew H42 H54 := (gk st)
  have g61 : Grew H H54 := Grew.trans g48 g60
  have r62 := g60.at r49
  have r63 := g60.at r50
  have r64 := g60.at r52
  have s65 := sS41.grew g60
  clear st hE vs ls
  refine res_loop (by kernel_rfl) (fun z E H' => ∃ (i : Nat) (acc66_0 : AV), z + i = ms2.length ∧ E 3 = .ptr p7 0 ∧ E 2 = .ptr p3 0 ∧ E 4 = .ptr p11 0 ∧ E 8 = .int .i64 (i : Int) ∧ E 7 = acc66_0 ∧ Grew H H' ∧ H'.get p3 = some (.row [.flt .f32 x, S] true) ∧ H'.get p7 = some (.row [.flt .f32 x2, S2] true) ∧ H'.get p11 = some (.row [.flt .f32 (some 0), .nilslice] true) ∧ SlF H' 9 (mrg ms ms2 i) acc66_0 ∧ FreshS H.next acc66_0 ∧ ApartL acc66_0 p3 ∧ ApartL acc66_0 p7 ∧ ApartL acc66_0 p11) (ms2.length) ⟨0, S41, by omega, b56, b58, b59, b55, b57, g61, r62, r63, r64, s65, fr47, (by assumption), (by assumption), (by assumption)⟩ ?_
  rintro z66 Ei66 Hi66 ⟨i66, acc66_0, hz66, c66_3, c66_2, c66_4, ci66, ca66_0, gt66, r66_0, r66_1, r66_2, s66_0, f66_0, ap66_0_0, ap66_0_1, ap66_0_2⟩
  have mxm : (mrg ms ms2 i66).length ≤ 1048576 := by have q1 := mrg_len ms ms2 i66; have q2 := okMap_len ht.1; have q3 := okMap_len ht.2.1; omega
  have q67 := q53.app (.cons ⟨_, rfl⟩ (.cons s66_0.one (.cons ⟨_, rfl⟩ .nil)) : KdsL [KI, .one, KI] [.int .i64 (i66 : Int), acc66_0, .int .i64 (ms2.length : Int)])
  refine run_mc (φ := φ0) (pm := pmT 2 [(.len (n1 3), nI 8)] 0) 20 (ws := [⟨p3, 0, [nF 0, n1 1], false⟩, ⟨p7, 0, [nF 2, n1 3], false⟩, ⟨p11, 0, [.lit (.flt .f32 (some 0)), .lit .nilslice], true⟩]) (env := [(3, .ptr 1 0), (2, .ptr 0 0), (4, .ptr 2 0), (8, nI 6), (7, n1 7)]) q67 (.cons (wR r66_0 q67) (.cons (wR r66_1 q67) (.cons (wO r66_2 q67) .nil))) (sepD (by repeat (first | exact .nil | refine .cons (by first | assumption | exact Apart.symm (by assumption)) ?_))) (.cons (⟨_, _, (dE q67), (dE q67), slLen hS2⟩) .nil) (eC q67 (.cons c66_3 (.cons c66_2 (.cons c66_4 (.cons ci66 (.cons ca66_0 .nil)))))) tbT_ok ap_ok ?_
  refine all2 (by kernel_rfl) ?_ ?_
  ·
   intro vs ls H68 E68 st hE
   have f69 : (i66 : Int) < (ms2.length : Int) := dt st 0
   have b70 := eo st hE 27 S2
   have b71 := eo st hE 28 (.int .i64 (i66 : Int))
   have b72 := eo st hE 25 acc66_0
   have b73 := eo st hE 8 (.int .i64 (i66 : Int))
   have b74 := eo st hE 3 (.ptr p7 0)
   have b75 := eo st hE 2 (.ptr p3 0)
   have b76 := eo st hE 4 (.ptr p11 0)
   have b77 := eo st hE 7 acc66_0
   have g78 : Grew Hi66 H68 := (gk st)
   have g79 : Grew H H68 := Grew.trans gt66 g78
   have r80 := g78.at r66_0
   have r81 := g78.at r66_1
   have r82 := g78.at r66_2
   have s83 := s66_0.grew g78
   clear st hE vs ls
   have hlt84 : i66 < ms2.length := by omega
   obtain ⟨lS84, cap84, rest84, wr84, eS84, gB84⟩ := hS2.isSl hlt84
   have gS84 := g79.at gB84
   have ne85 := apn gB84 op3
   have ne86 := apn gB84 op7
   have ne87 := apn gB84 op11
   obtain ⟨v84_0, v84_1, v84_2, v84_3, v84_4, v84_5, v84_6, v84_7, v84_8, hm84, ho84_3, ho84_4, ho84_5, ho84_6⟩ := partsMark (hr2.get hlt84)
   have he84 : ms2.getD i66 [] = [.int .i32 v84_0, .int .i32 v84_1, .int .i32 v84_2, .flt .f32 v84_3, .flt .f32 v84_4, .flt .f32 v84_5, .flt .f32 v84_6, .int .i64 v84_7, .int .i64 v84_8] := by rw [← hm84, List.getD_eq_getElem?_getD, List.getElem?_eq_getElem hlt84]; rfl
   have q88 := q67.app (.cons ⟨_, rfl⟩ (.cons ⟨_, rfl⟩ (.cons ⟨_, rfl⟩ (.cons ⟨_, rfl, ho84_3⟩ (.cons ⟨_, rfl, ho84_4⟩ (.cons ⟨_, rfl, ho84_5⟩ (.cons ⟨_, rfl, ho84_6⟩ (.cons ⟨_, rfl⟩ (.cons ⟨_, rfl⟩ .nil)))))))) : KdsL [K2, K2, K2, KF, KF, KF, KF, KI, KI] [.int .i32 v84_0, .int .i32 v84_1, .int .i32 v84_2, .flt .f32 v84_3, .flt .f32 v84_4, .flt .f32 v84_5, .flt .f32 v84_6, .int .i64 v84_7, .int .i64 v84_8])
   refine run_mc (φ := φ0) (pm := pmT 3 [(.ia 9 (n1 3) (nI 6), .ptr 2 0)] 0) 20 (ws := [⟨p3, 0, [nF 0, n1 1], false⟩, ⟨p7, 0, [nF 2, n1 3], false⟩, ⟨lS84, (i66 * 9), [n2 9, n2 10, n2 11, nF 12, nF 13, nF 14, nF 15, nI 16, nI 17], false⟩, ⟨p11, 0, [.lit (.flt .f32 (some 0)), .lit .nilslice], true⟩]) (env := [(27, n1 3), (28, nI 6), (25, n1 7), (8, nI 6), (3, .ptr 1 0), (2, .ptr 0 0), (4, .ptr 3 0), (7, n1 7)]) q88 (.cons (wR r80 q88) (.cons (wR r81 q88) (.cons (win_elem hr2 gS84 hlt84 rfl (by rw [hm84]; exact (dL q88))) (.cons (wO r82 q88) .nil)))) (sepD (by repeat (first | exact .nil | refine .cons (by first | assumption | exact Apart.symm (by assumption)) ?_))) (.cons (rule_iaS (k := i66) (dE q88) eS84 (dE q88) hlt84 rfl) .nil) (eC q88 (.cons b70 (.cons b71 (.cons b72 (.cons b73 (.cons b74 (.cons b75 (.cons b76 (.cons b77 .nil))))))))) tbT_ok ap_ok ?_
   refine all1 (by kernel_rfl) ?_
   intro vs ls H89 E89 st hE
   have b90 := eo st hE 25 acc66_0
   have b91 := eo st hE 30 (.agg [.int .i32 v84_0, .int .i32 v84_1, .int .i32 v84_2, .flt .f32 v84_3, .flt .f32 v84_4, .flt .f32 v84_5, .flt .f32 v84_6, .int .i64 v84_7, .int .i64 v84_8])
   have b92 := eo st hE 8 (.int .i64 (i66 : Int))
   have b93 := eo st hE 3 (.ptr p7 0)
   have b94 := eo st hE 2 (.ptr p3 0)
   have b95 := eo st hE 4 (.ptr p11 0)
   have b96 := eo st hE 7 acc66_0
   have g97 : Grew H68 H89 := (gk st)
   have g98 : Grew H H89 := Grew.trans g79 g97
   have r99 := g97.at r80
   have r100 := g97.at r81
   have r102 := g97.at r82
   have s103 := s83.grew g97
   clear st hE vs ls
   refine res_call (d := (some 31)) (f := 31) (args := [.tmp 25, .tmp 30]) (by kernel_rfl) (R := fun z H' => Grew H89 H' ∧ SlF H' 9 (putL (mrg ms ms2 i66) [.int .i32 v84_0, .int .i32 v84_1, .int .i32 v84_2, .flt .f32 v84_3, .flt .f32 v84_4, .flt .f32 v84_5, .flt .f32 v84_6, .int .i64 v84_7, .int .i64 v84_8]) z ∧ FreshS H89.next z) ?_ ?_
   ·
    show ACalls _ _ [E89 25, E89 30] _ _
    rw [b90, b91]
    exact k_l05Put H89 (mrg ms ms2 i66) (mrg_recs hr hr2 i66 (by omega)) (acc66_0) s103.toL mxm (mrg_markX (okMap_markX hr ht.1) (okMap_markX hr2 ht.2.1) i66 (by omega)) v84_0 v84_1 v84_2 v84_3 v84_4 v84_5 v84_6 v84_7 v84_8 ho84_3 ho84_4 ho84_5 ho84_6 (by rw [← he84]; exact okMap_markX hr2 ht.2.1 _ (getD_mem hlt84))
   rintro S104 H105 ⟨gS104, sS104, fS104⟩
   have ne106 : ApartL (S104) p3 := fS104.apartL (H89.lt_of_get r99)
   have ne107 : ApartL (S104) p7 := fS104.apartL (H89.lt_of_get r100)
   have ne108 : ApartL (S104) p11 := fS104.apartL (H89.lt_of_get r102)
   have ne109 : ApartS (S104) (acc66_0) := fS104.apartS s103.lt
   have fr110 : FreshS H.next (S104) := fS104.mono g98.next
   have g111 : Grew H H105 := Grew.trans g98 gS104
   have r112 := gS104.at r99
   have r113 := gS104.at r100
   have r114 := gS104.at r102
   have q116 := q88.app (.cons sS104.one .nil : KdsL [.one] [S104])
   refine run_mc (φ := φ0) (pm := pmT 2 [] 0) 20 (ws := [⟨p3, 0, [nF 0, n1 1], false⟩, ⟨p7, 0, [nF 2, n1 3], false⟩, ⟨p11, 0, [.lit (.flt .f32 (some 0)), .lit .nilslice], true⟩]) (env := [(25, n1 7), (30, .agg [n2 9, n2 10, n2 11, nF 12, nF 13, nF 14, nF 15, nI 16, nI 17]), (8, nI 6), (3, .ptr 1 0), (2, .ptr 0 0), (4, .ptr 2 0), (7, n1 7), (31, n1 18)]) q116 (.cons (wR r112 q116) (.cons (wR r113 q116) (.cons (wO r114 q116) .nil))) (sepD (by repeat (first | exact .nil | refine .cons (by first | assumption | exact Apart.symm (by assumption)) ?_))) .nil (eC q116 (.cons (put_ne rfl b90) (.cons (put_ne rfl b91) (.cons (put_ne rfl b92) (.cons (put_ne rfl b93) (.cons (put_ne rfl b94) (.cons (put_ne rfl b95) (.cons (put_ne rfl b96) (.cons put_same .nil))))))))) tbT_ok ap_ok ?_
   refine all1 (by kernel_rfl) ?_
   intro vs ls H117 E117 st hE
   obtain ⟨w118, hw118⟩ : ∃ z, z = (IntKind.wrap .i64 ((i66 : Int) + 1)) := ⟨_, rfl⟩
   have b119 : E117 8 = .int .i64 w118 := by rw [hw118]; exact eo st hE 8 _
   have b120 := eo st hE 3 (.ptr p7 0)
   have b121 := eo st hE 2 (.ptr p3 0)
   have b122 := eo st hE 4 (.ptr p11 0)
   have b123 := eo st hE 7 S104
   have g124 : Grew H105 H117 := (gk st)
   have g125 : Grew H H117 := Grew.trans g111 g124
   have r126 := g124.at r112
   have r127 := g124.at r113
   have r128 := g124.at r114
   have s130 := sS104.grew g124
   clear st hE vs ls
   have hz9 : z66 - 1 < z66 := by omega
   have hy9 : z66 - 1 + (i66 + 1) = ms2.length := by omega
   have hi9 : E117 8 = .int .i64 ((i66 + 1 : Nat) : Int) := by rw [b119, hw118, wrap64 (by omega)]
   have hst : (mrg ms ms2 (i66 + 1)) = (putL (mrg ms ms2 i66) [.int .i32 v84_0, .int .i32 v84_1, .int .i32 v84_2, .flt .f32 v84_3, .flt .f32 v84_4, .flt .f32 v84_5, .flt .f32 v84_6, .int .i64 v84_7, .int .i64 v84_8]) := by show putL _ (ms2.getD i66 []) = _; rw [he84]
   exact res_norm (by kernel_rfl) ⟨z66 - 1, hz9, i66 + 1, S104, hy9, b120, b121, b122, hi9, b123, g125, r126, r127, r128, (by rw [hst]; exact s130), fr110, (by assumption), (by assumption), (by assumption)⟩
  ·
   intro vs ls H131 E131 st hE
   have f132 : ¬ ((i66 : Int) < (ms2.length : Int)) := df st 0
   have b133 := eo st hE 8 (.int .i64 (i66 : Int))
   have b134 := eo st hE 3 (.ptr p7 0)
   have b135 := eo st hE 19 (.ptr p7 1)
   have b136 := eo st hE 20 S2
   have b137 := eo st hE 18 (.int .i64 (i66 : Int))
   have b138 := eo st hE 21 (.int .i64 (ms2.length : Int))
   obtain ⟨w139, hw139⟩ : ∃ z, z = (decide ((i66 : Int) < (ms2.length : Int))) := ⟨_, rfl⟩
   have b140 : E131 22 = .bool w139 := by rw [hw139]; exact eo st hE 22 _
   have b141 := eo st hE 7 acc66_0
   have b142 := eo st hE 2 (.ptr p3 0)
   have b143 := eo st hE 4 (.ptr p11 0)
   have g144 : Grew Hi66 H131 := (gk st)
   have g145 : Grew H H131 := Grew.trans gt66 g144
   have r146 := g144.at r66_0
   have r147 := g144.at r66_1
   have r148 := g144.at r66_2
   have s149 := s66_0.grew g144
   clear st hE vs ls
   refine res_exit (id := 0) (by kernel_rfl) ?_
   have q150 := q67.app (.cons ⟨_, rfl⟩ (.cons ⟨_, rfl⟩ .nil) : KdsL [.bool, KI] [.bool w139, .int .i64 ((mrg ms ms2 i66).length : Int)])
   refine run_mc (φ := φ0) (pm := pmT 2 [(.len (n1 7), nI 10)] 0) 20 (ws := [⟨p3, 0, [nF 0, n1 1], false⟩, ⟨p7, 0, [nF 2, n1 3], false⟩, ⟨p11, 0, [.lit (.flt .f32 (some 0)), .lit .nilslice], true⟩]) (env := [(8, nI 6), (3, .ptr 1 0), (19, .ptr 1 1), (20, n1 3), (18, nI 6), (21, nI 8), (22, nB 9), (7, n1 7), (2, .ptr 0 0), (4, .ptr 2 0)]) q150 (.cons (wR r146 q150) (.cons (wR r147 q150) (.cons (wO r148 q150) .nil))) (sepD (by repeat (first | exact .nil | refine .cons (by first | assumption | exact Apart.symm (by assumption)) ?_))) (.cons (⟨_, _, (dE q150), (dE q150), slLen (s149.toL)⟩) .nil) (eC q150 (.cons b133 (.cons b134 (.cons b135 (.cons b136 (.cons b137 (.cons b138 (.cons b140 (.cons b141 (.cons b142 (.cons b143 .nil))))))))))) tbT_ok ap_ok ?_
   refine all2 (by kernel_rfl) ?_ ?_
   ·
    intro vs ls H151 E151 st hE
    have f152 : 200 < ((mrg ms ms2 i66).length : Int) := dt st 0
    have gz : Grew H H151 := (grew_own g145 (st.inn.kept) ⟨op11, trivial⟩)
    have hc : mergeV x ms x2 ms2 = ((some 0), [], 3) := by
     unfold mergeV
     rw [if_pos f24, show ms2.length = i66 by omega, if_neg (by omega)]
    exact res_ex (by kernel_rfl) (end_same st.inn hE (.inr rfl) (a := .tuple [.agg [.flt .f32 (some 0), .nilslice], .int .i64 3]) (by kernel_rfl) gz.next (by rw [hc]; exact ⟨gz, _, rfl, (.nil rfl), FreshS.nil⟩))
   ·
    intro vs ls H153 E153 st hE
    have f154 : ¬ (200 < ((mrg ms ms2 i66).length : Int)) := df st 0
    have gz : Grew H H153 := (grew_own g145 (st.inn.kept) ⟨op11, trivial⟩)
    have hc : mergeV x ms x2 ms2 = (x, (mrg ms ms2 i66), 0) := by
     unfold mergeV
     rw [if_pos f24, show ms2.length = i66 by omega, if_pos (by omega)]
    exact res_ex (by kernel_rfl) (end_same st.inn hE (.inr rfl) (a := .tuple [.agg [.flt .f32 x, acc66_0], .int .i64 0]) (by kernel_rfl) gz.next (by rw [hc]; exact ⟨gz, _, rfl, ((s149.keep st.inn.kept ⟨by assumption, trivial⟩)).toW, f66_0⟩))
end Go.Proofs.Ytacligocjfhckaa
