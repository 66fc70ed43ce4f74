/- Contracts: centres of valid maps, by the program. -/
import Derived.Test.YtgjhjemmddojfaaTCentreS
import Derived.Test.YtgjhjemmddojfaaSxE
set_option linter.unusedVariables false
set_option linter.unusedSimpArgs false
namespace Go.Proofs.Ytgjhjemmddojfaa
open Go.Ab
set_option maxRecDepth 100000
set_option maxHeartbeats 1000000
attribute [local irreducible] Res
theorem first_w {x : Option Nat} {ms : List (List AV)} (hr : Recs KM ms) (h : okMap x ms = true) (h0 : 0 < ms.length) {v0 v1 v2 v7 v8 : Int} {v3 v4 v5 v6 : Option Nat} (he : ms.getD 0 [] = [.int .i32 v0, .int .i32 v1, .int .i32 v2, .flt .f32 v3, .flt .f32 v4, .flt .f32 v5, .flt .f32 v6, .int .i64 v7, .int .i64 v8]) (o3 : fOk .f32 v3) (o4 : fOk .f32 v4) (o5 : fOk .f32 v5) (o6 : fOk .f32 v6) : fop .add .f32 (some 0) v6 = v6 := by
 have hk : okAt ms 0 = true := by
  cases hb : okAt ms 0 with
  | true => rfl
  | false => rw [okMap_at h0 hb] at h; cases h
 have hm : markB (ms.getD 0 []) = true := by
  unfold okAt at hk; rw [Bool.and_eq_true] at hk; exact hk.1
 rw [he] at hm
 have hd : KdsL KM [.int .i32 v0, .int .i32 v1, .int .i32 v2, .flt .f32 v3, .flt .f32 v4, .flt .f32 v5, .flt .f32 v6, .int .i64 v7, .int .i64 v8] := .cons ⟨_, rfl⟩ (.cons ⟨_, rfl⟩ (.cons ⟨_, rfl⟩ (.cons ⟨_, rfl, o3⟩ (.cons ⟨_, rfl, o4⟩ (.cons ⟨_, rfl, o5⟩ (.cons ⟨_, rfl, o6⟩ (.cons ⟨_, rfl⟩ (.cons ⟨_, rfl⟩ .nil))))))))
 obtain ⟨z, hz⟩ := agg_val (μ := fun _ => none) hd (by decide)
 have e := uniqB h_impl_validMark (by kernel_rfl) ⟨[z], .cons hz RL.nil⟩ (k_validMark _ hd) (k_validMarkX v0 v1 v2 v3 v4 v5 v6 v7 v8 o3 o4 o5 o6)
 rw [hm] at e
 have h9 : (finX v3 v4 v5 && (sideX v6 && (decide (1 ≤ v7 ∧ v7 ≤ 1000000) && decide (0 ≤ v8 ∧ v8 ≤ 1000000000)))) = true := e.symm
 rw [Bool.and_eq_true, Bool.and_eq_true] at h9
 have hp := sideX_pos h9.2.1
 exact zero_add32 o6 hp.1 hp.2
theorem k_impl_Centre1 (H : AHeap) (x : Option Nat) (hx : fOk .f32 x) (ms : List (List AV)) (hr : Recs KM ms) (S : AV) (hS : SlL H 9 ms S) (mxms : ms.length ≤ 1048576) (hn0 : 0 < ms.length) (l cap : Nat) (eS : S = .slice l 0 ms.length cap 9) (hcap : ms.length ≤ cap) : APure Try.prog 40 [.agg [.flt .f32 x, S]] H (.tuple [.agg (centreF x ms).1, .int .i64 (centreF x ms).2]) := by
 refine res_start h_impl_CentreOf (by simp) ?_
 have q1 : KdsL [KF, .one, .bool, KI] [.flt .f32 x, S, .bool (okMap x ms), .int .i64 (ms.length : Int)] := .cons ⟨_, rfl, hx⟩ (.cons (slOne hS) (.cons ⟨_, rfl⟩ (.cons ⟨_, rfl⟩ .nil)))
 refine run_mc (φ := φ0) (pm := pmR 0 [(.call 35 [.agg [nF 0, n1 1]], nB 2), (.len (n1 1), nI 3)] 0) 20 (ws := []) (env := [(0, .agg [nF 0, n1 1])]) q1 .nil (sepOk_ro rfl) (.cons (rule_call (args := [.agg [.flt .f32 x, S]]) (dL q1) (dE q1) (fun H9 hk => k_impl_ValidMap H9 x hx S ms hr (hS.grew (Grew.trans (Grew.refl _) (hk.grew (Nat.le_refl _)))) (mx40 mxms))) (.cons (⟨_, _, (dE q1), (dE q1), slLen hS⟩) .nil)) (eC q1 (.cons (t := 0) rfl .nil)) tb_ok ap_ok ?_
 refine all3 (by kernel_rfl) ?_ ?_ ?_
 ·
  intro vs ls H2 E2 st hE
  have f3 : (okMap x ms) = false := bf st 0
  refine res_ex (by kernel_rfl) (end_flat st.inn hE (.inr rfl) (a := .tuple [.agg [.flt .f32 (some 0), .flt .f32 (some 0), .flt .f32 (some 0)], .int .i64 1]) (by kernel_rfl) (Grew.trans (Grew.refl _) (gk st)) rfl ⟨?_, rfl⟩)
  unfold centreF; rw [if_neg (by rw [f3]; decide)]
 ·
  intro vs ls H4 E4 st hE
  have f5 : (ms.length : Int) = 0 := dt st 0
  have f6 : (okMap x ms) = true := bf st 1
  refine res_ex (by kernel_rfl) (end_flat st.inn hE (.inr rfl) (a := .tuple [.agg [.flt .f32 (some 0), .flt .f32 (some 0), .flt .f32 (some 0)], .int .i64 6]) (by kernel_rfl) (Grew.trans (Grew.refl _) (gk st)) rfl ⟨?_, rfl⟩)
  unfold centreF; rw [if_pos f6, if_pos (by omega)]
 ·
  intro vs ls H7 E7 st hE
  have f8 : ¬ ((ms.length : Int) = 0) := df st 0
  have f9 : (okMap x ms) = true := bf st 1
  obtain ⟨p10, e11, r12, n13⟩ := ptr_of st.inn hE 1 0 (by kernel_rfl) (ds := [.flt .f32 x, S]) (by kernel_rfl)
  have op10 : H.next ≤ p10 := Nat.le_trans (Nat.le_refl _) (n13 (Nat.le_of_ble_eq_true rfl))
  obtain ⟨p14, e15, r16, n17⟩ := ptr_of st.inn hE 2 1 (by kernel_rfl) (ds := [.flt .f32 (some 0), .flt .f32 (some 0), .flt .f32 (some 0)]) (by kernel_rfl)
  have op14 : H.next ≤ p14 := Nat.le_trans (Nat.le_refl _) (n17 (Nat.le_of_ble_eq_true rfl))
  have ne18 : Apart p10 p14 := ⟨ptr_ne st.inn hE 1 0 2 1 (by kernel_rfl) (by kernel_rfl) (cs := [.nd 0 (.flt .f32), .nd 1 .one]) (by kernel_rfl) (by decide) e11 e15⟩
  have b19 := eo st hE 22 S
  have g20 : Grew H H7 := (gk st)
  have g21 : Grew H H7 := Grew.trans (Grew.refl _) g20
  clear st hE vs ls
  have hlt22 : 0 < ms.length := by omega
  obtain ⟨lS22, cap22, rest22, wr22, eS22, gB22⟩ := hS.isSl hlt22
  have gS22 := g21.at gB22
  have ne23 := apn gB22 op10
  have ne24 := apn gB22 op14
  obtain ⟨v22_0, v22_1, v22_2, v22_3, v22_4, v22_5, v22_6, v22_7, v22_8, hm22, ho22_3, ho22_4, ho22_5, ho22_6⟩ := partsMark (hr.get hlt22)
  have he22 : ms.getD 0 [] = [.int .i32 v22_0, .int .i32 v22_1, .int .i32 v22_2, .flt .f32 v22_3, .flt .f32 v22_4, .flt .f32 v22_5, .flt .f32 v22_6, .int .i64 v22_7, .int .i64 v22_8] := by rw [← hm22, List.getD_eq_getElem?_getD, List.getElem?_eq_getElem hlt22]; rfl
  have q25 := q1.app (.cons ⟨_, rfl⟩ (.cons ⟨_, rfl⟩ (.cons ⟨_, rfl⟩ (.cons ⟨_, rfl, ho22_3⟩ (.cons ⟨_, rfl, ho22_4⟩ (.cons ⟨_, rfl, ho22_5⟩ (.cons ⟨_, rfl, ho22_6⟩ (.cons ⟨_, rfl⟩ (.cons ⟨_, rfl⟩ .nil)))))))) : KdsL [K2, K2, K2, KF, KF, KF, KF, KI, KI] [.int .i32 v22_0, .int .i32 v22_1, .int .i32 v22_2, .flt .f32 v22_3, .flt .f32 v22_4, .flt .f32 v22_5, .flt .f32 v22_6, .int .i64 v22_7, .int .i64 v22_8])
  refine run_mc (φ := φ0) (pm := pmR 3 [(.ia 9 (n1 1) (.lit (.int .i64 0)), .ptr 2 0)] 0) 20 (ws := [⟨p10, 0, [nF 0, n1 1], false⟩, ⟨p14, 0, [.lit (.flt .f32 (some 0)), .lit (.flt .f32 (some 0)), .lit (.flt .f32 (some 0))], false⟩, ⟨lS22, (0 * 9), [n2 4, n2 5, n2 6, nF 7, nF 8, nF 9, nF 10, nI 11, nI 12], false⟩]) (env := [(22, n1 1), (1, .ptr 0 0), (2, .ptr 1 0)]) q25 (.cons (wR r12 q25) (.cons (wR r16 q25) (.cons (win_elem hr gS22 hlt22 rfl (by rw [hm22]; exact (dL q25))) .nil))) (sepOk_ro rfl) (.cons (rule_iaS (k := 0) (dE q25) eS22 (dE q25) hlt22 rfl) .nil) (eC q25 (.cons b19 (.cons e11 (.cons e15 .nil)))) tb_ok ap_ok ?_
  refine all1 (by kernel_rfl) ?_
  intro vs ls H26 E26 st hE
  obtain ⟨p27, e28, r29, n30⟩ := ptr_of st.inn hE 5 4 (by kernel_rfl) (ds := [.flt .f32 (some 0), .flt .f32 (some 0), .flt .f32 (some 0)]) (by kernel_rfl)
  have op27 : H.next ≤ p27 := Nat.le_trans g21.next (n30 (Nat.le_of_ble_eq_true rfl))
  obtain ⟨p31, e32, r33, n34⟩ := ptr_of st.inn hE 4 3 (by kernel_rfl) (ds := [.int .i32 v22_0, .int .i32 v22_1, .int .i32 v22_2, .flt .f32 v22_3, .flt .f32 v22_4, .flt .f32 v22_5, .flt .f32 v22_6, .int .i64 v22_7, .int .i64 v22_8]) (by kernel_rfl)
  have op31 : H.next ≤ p31 := Nat.le_trans g21.next (n34 (Nat.le_of_ble_eq_true rfl))
  have ne35 : Apart p27 p31 := ⟨ptr_ne st.inn hE 5 4 4 3 (by kernel_rfl) (by kernel_rfl) (cs := [.lit (.flt .f32 (some 0)), .lit (.flt .f32 (some 0)), .lit (.flt .f32 (some 0))]) (by kernel_rfl) (by decide) e28 e32⟩
  have ne36 := apn r12 (n30 (Nat.le_of_ble_eq_true rfl))
  have ne37 := apn r16 (n30 (Nat.le_of_ble_eq_true rfl))
  have ne38 := apn gS22 (n30 (Nat.le_of_ble_eq_true rfl))
  have ne39 := apn r12 (n34 (Nat.le_of_ble_eq_true rfl))
  have ne40 := apn r16 (n34 (Nat.le_of_ble_eq_true rfl))
  have ne41 := apn gS22 (n34 (Nat.le_of_ble_eq_true rfl))
  have b42 : E26 25 = .ptr p31 3 := ptr_off st.inn hE 25 3 3 (by kernel_rfl) 4 (by kernel_rfl) e32
  have b43 : E26 27 = .ptr p31 6 := ptr_off st.inn hE 27 3 6 (by kernel_rfl) 4 (by kernel_rfl) e32
  have b44 : E26 30 = .ptr p31 6 := ptr_off st.inn hE 30 3 6 (by kernel_rfl) 4 (by kernel_rfl) e32
  have b45 := eo st hE 1 (.ptr p10 0)
  have b46 := eo st hE 2 (.ptr p14 0)
  have g47 : Grew H7 H26 := (gk st)
  have g48 : Grew H H26 := Grew.trans g21 g47
  have r49 := g47.at r12
  have r50 := g47.at r16
  clear st hE vs ls
  refine res_kids2 (by kernel_rfl) ?_ ?_
  ·
   refine run_mc (φ := φ0) (pm := pmR 4 [] 0) 20 (ws := [⟨p10, 0, [nF 0, n1 1], false⟩, ⟨p14, 0, [.lit (.flt .f32 (some 0)), .lit (.flt .f32 (some 0)), .lit (.flt .f32 (some 0))], false⟩, ⟨p27, 0, [.lit (.flt .f32 (some 0)), .lit (.flt .f32 (some 0)), .lit (.flt .f32 (some 0))], false⟩, ⟨p31, 0, [n2 4, n2 5, n2 6, nF 7, nF 8, nF 9, nF 10, nI 11, nI 12], false⟩]) (env := [(25, .ptr 3 3), (27, .ptr 3 6), (30, .ptr 3 6), (5, .ptr 2 0), (1, .ptr 0 0), (2, .ptr 1 0), (4, .ptr 3 0)]) q25 (.cons (wR r49 q25) (.cons (wR r50 q25) (.cons (wR r29 q25) (.cons (wR r33 q25) .nil)))) (sepOk_ro rfl) .nil (eC q25 (.cons b42 (.cons b43 (.cons b44 (.cons e28 (.cons b45 (.cons b46 (.cons e32 .nil)))))))) tb_ok ap_ok ?_
   refine all1 (by kernel_rfl) ?_
   intro vs ls H53 E53 st hE
   have b54 := eo st hE 27 (.ptr p31 6)
   have b55 := eo st hE 26 (.agg [.flt .f32 v22_3, .flt .f32 v22_4, .flt .f32 v22_5])
   have b56 := eo st hE 30 (.ptr p31 6)
   have b57 := eo st hE 5 (.ptr p27 0)
   have b58 := eo st hE 1 (.ptr p10 0)
   have b59 := eo st hE 2 (.ptr p14 0)
   have g60 : Grew H26 H53 := (gk st)
   have g61 : Grew H H53 := Grew.trans g48 g60
   have r62 := g60.at r49
   have r63 := g60.at r50
   have r64 := g60.at r29
   have r65 := g60.at r33
   clear st hE vs ls
   refine res_kids2 (by kernel_rfl) ?_ ?_
   ·
    refine run_mc (φ := φ0) (pm := pmR 4 [] 0) 20 (ws := [⟨p10, 0, [nF 0, n1 1], false⟩, ⟨p14, 0, [.lit (.flt .f32 (some 0)), .lit (.flt .f32 (some 0)), .lit (.flt .f32 (some 0))], false⟩, ⟨p27, 0, [.lit (.flt .f32 (some 0)), .lit (.flt .f32 (some 0)), .lit (.flt .f32 (some 0))], false⟩, ⟨p31, 0, [n2 4, n2 5, n2 6, nF 7, nF 8, nF 9, nF 10, nI 11, nI 12], false⟩]) (env := [(27, .ptr 3 6), (26, .agg [nF 7, nF 8, nF 9]), (30, .ptr 3 6), (5, .ptr 2 0), (1, .ptr 0 0), (2, .ptr 1 0)]) q25 (.cons (wR r62 q25) (.cons (wR r63 q25) (.cons (wR r64 q25) (.cons (wR r65 q25) .nil)))) (sepOk_ro rfl) .nil (eC q25 (.cons b54 (.cons b55 (.cons b56 (.cons b57 (.cons b58 (.cons b59 .nil))))))) tb_ok ap_ok ?_
    refine all1 (by kernel_rfl) ?_
    intro vs ls H67 E67 st hE
    have b68 := eo st hE 26 (.agg [.flt .f32 v22_3, .flt .f32 v22_4, .flt .f32 v22_5])
    have b69 := eo st hE 28 (.flt .f32 v22_6)
    have b70 := eo st hE 30 (.ptr p31 6)
    have b71 := eo st hE 5 (.ptr p27 0)
    have b72 := eo st hE 1 (.ptr p10 0)
    have b73 := eo st hE 2 (.ptr p14 0)
    have g74 : Grew H53 H67 := (gk st)
    have g75 : Grew H H67 := Grew.trans g61 g74
    have r76 := g74.at r62
    have r77 := g74.at r63
    have r78 := g74.at r64
    have r79 := g74.at r65
    clear st hE vs ls
    refine res_kids2 (by kernel_rfl) ?_ ?_
    ·
     refine run_mc (φ := φ0) (pm := pmR 4 [] 0) 20 (ws := [⟨p10, 0, [nF 0, n1 1], false⟩, ⟨p14, 0, [.lit (.flt .f32 (some 0)), .lit (.flt .f32 (some 0)), .lit (.flt .f32 (some 0))], false⟩, ⟨p27, 0, [.lit (.flt .f32 (some 0)), .lit (.flt .f32 (some 0)), .lit (.flt .f32 (some 0))], false⟩, ⟨p31, 0, [n2 4, n2 5, n2 6, nF 7, nF 8, nF 9, nF 10, nI 11, nI 12], false⟩]) (env := [(26, .agg [nF 7, nF 8, nF 9]), (28, nF 10), (30, .ptr 3 6), (5, .ptr 2 0), (1, .ptr 0 0), (2, .ptr 1 0)]) q25 (.cons (wR r76 q25) (.cons (wR r77 q25) (.cons (wR r78 q25) (.cons (wR r79 q25) .nil)))) (sepOk_ro rfl) .nil (eC q25 (.cons b68 (.cons b69 (.cons b70 (.cons b71 (.cons b72 (.cons b73 .nil))))))) tb_ok ap_ok ?_
     refine all1 (by kernel_rfl) ?_
     intro vs ls H81 E81 st hE
     have b82 := eo st hE 30 (.ptr p31 6)
     have b83 := eo st hE 5 (.ptr p27 0)
     obtain ⟨w84, hw84⟩ : ∃ z, z = (fop .mul .f32 v22_3 v22_6) := ⟨_, rfl⟩
     obtain ⟨w85, hw85⟩ : ∃ z, z = (fop .mul .f32 v22_4 v22_6) := ⟨_, rfl⟩
     obtain ⟨w86, hw86⟩ : ∃ z, z = (fop .mul .f32 v22_5 v22_6) := ⟨_, rfl⟩
     have b87 : E81 29 = .agg [.flt .f32 w84, .flt .f32 w85, .flt .f32 w86] := by rw [hw84, hw85, hw86]; exact eo st hE 29 _
     have b88 := eo st hE 1 (.ptr p10 0)
     have b89 := eo st hE 2 (.ptr p14 0)
     have g90 : Grew H67 H81 := (gk st)
     have g91 : Grew H H81 := Grew.trans g75 g90
     have r92 := g90.at r76
     have r93 := g90.at r77
     have r94 := g90.at r78
     have r95 := g90.at r79
     clear st hE vs ls
     refine res_kids2 (by kernel_rfl) ?_ ?_
     ·
      have q96 := q25.app (.cons ⟨_, rfl, hw84 ▸ fop_ok⟩ (.cons ⟨_, rfl, hw85 ▸ fop_ok⟩ (.cons ⟨_, rfl, hw86 ▸ fop_ok⟩ (.cons rfl (.cons ⟨_, rfl⟩ .nil)))) : KdsL [KF, KF, KF, .one, KI] [.flt .f32 w84, .flt .f32 w85, .flt .f32 w86, (.slice l (1 * 9) (ms.length - 1) (cap - 1) 9), .int .i64 ((ms.length - 1 : Nat) : Int)])
      refine run_mc (φ := φ0) (pm := pmR 3 [(.slSl 9 (n1 1) (some (.lit (.int .i64 1))) none, n1 16), (.len (n1 16), nI 17)] 0) 20 (ws := [⟨p10, 0, [nF 0, n1 1], false⟩, ⟨p14, 0, [.lit (.flt .f32 (some 0)), .lit (.flt .f32 (some 0)), .lit (.flt .f32 (some 0))], false⟩, ⟨p31, 0, [n2 4, n2 5, n2 6, nF 7, nF 8, nF 9, nF 10, nI 11, nI 12], false⟩, ⟨p27, 0, [.lit (.flt .f32 (some 0)), .lit (.flt .f32 (some 0)), .lit (.flt .f32 (some 0))], true⟩]) (env := [(30, .ptr 2 6), (5, .ptr 3 0), (29, .agg [nF 13, nF 14, nF 15]), (1, .ptr 0 0), (2, .ptr 1 0)]) q96 (.cons (wR r92 q96) (.cons (wR r93 q96) (.cons (wR r95 q96) (.cons (wO r94 q96) .nil)))) (sepD (by repeat (first | exact .nil | refine .cons (by first | assumption | exact Apart.symm (by assumption)) ?_))) (.cons (rule_fromS (dE q96) eS (dE q96) (dE q96) (by omega) hcap) (.cons (rule_len (l := l) (o := 1 * 9) (n := ms.length - 1) (cap := cap - 1) (sz := 9) (dE q96) (dE q96)) .nil)) (eC q96 (.cons b82 (.cons b83 (.cons b87 (.cons b88 (.cons b89 .nil)))))) tb_ok ap_ok ?_
      refine all1 (by kernel_rfl) ?_
      have hc0 : cenT ms (0 + 1) = ⟨fop .mul .f32 v22_3 v22_6, fop .mul .f32 v22_4 v22_6, fop .mul .f32 v22_5 v22_6, v22_6⟩ := by
       show cenS (cenT ms 0) 0 _ = _
       rw [he22, cenS_0 _ rfl, show (cenT ms 0).w = some 0 from rfl, first_w hr f9 hn0 he22 (by assumption) (by assumption) (by assumption) (by assumption), mul_comm32 v22_6 v22_3, mul_comm32 v22_6 v22_4, mul_comm32 v22_6 v22_5]
      intro vs ls H97 E97 st hE
      have r98 : H97.get p27 = some (.row [.flt .f32 w84, .flt .f32 w85, .flt .f32 w86] true) := row_whole st.inn 3 (l := p27) (b := 0) rfl (by kernel_rfl)
      have b99 := eo st hE 36 (.int .i64 0)
      have b100 := eo st hE 35 (.int .i64 ((ms.length - 1 : Nat) : Int))
      have b101 := eo st hE 34 ((.slice l (1 * 9) (ms.length - 1) (cap - 1) 9))
      have b102 := eo st hE 5 (.ptr p27 0)
      have b103 := eo st hE 6 (.flt .f32 v22_6)
      have b104 := eo st hE 2 (.ptr p14 0)
      have g106 : Grew H H97 := grew_own g91 st.inn.kept ⟨op27, trivial⟩
      have r108 := kept_at st.inn.kept r93 ⟨by first | assumption | exact Apart.symm (by assumption), trivial⟩
      clear st hE vs ls
      refine res_loop (by kernel_rfl) (fun z E H' => ∃ (i : Nat), z + i = (ms.length - 1) ∧ E 35 = .int .i64 ((ms.length - 1 : Nat) : Int) ∧ E 34 = (.slice l (1 * 9) (ms.length - 1) (cap - 1) 9) ∧ E 5 = .ptr p27 0 ∧ E 2 = .ptr p14 0 ∧ E 36 = .int .i64 (i : Int) ∧ E 6 = .flt .f32 (cenT ms (i + 1)).w ∧ Grew H H' ∧ H'.get p14 = some (.row [.flt .f32 (some 0), .flt .f32 (some 0), .flt .f32 (some 0)] true) ∧ H'.get p27 = some (.row [.flt .f32 (cenT ms (i + 1)).a, .flt .f32 (cenT ms (i + 1)).b, .flt .f32 (cenT ms (i + 1)).c] true)) ((ms.length - 1)) ⟨0, by omega, b100, b101, b102, b104, b99, (by rw [hc0]; exact b103), g106, r108, (by rw [hc0, ← hw84, ← hw85, ← hw86]; exact r98)⟩ ?_
      rintro z110 Ei110 Hi110 ⟨i110, hz110, c110_35, c110_34, c110_5, c110_2, ci110, cv110_6, gt110, r110_0, r110_1⟩
      have q111 := q96.app (.cons ⟨_, rfl⟩ (.cons ⟨_, rfl, (cenT_ok ms (i110 + 1)).2.2.2⟩ (.cons ⟨_, rfl, (cenT_ok ms (i110 + 1)).1⟩ (.cons ⟨_, rfl, (cenT_ok ms (i110 + 1)).2.1⟩ (.cons ⟨_, rfl, (cenT_ok ms (i110 + 1)).2.2.1⟩ .nil)))) : KdsL [KI, KF, KF, KF, KF] [.int .i64 (i110 : Int), .flt .f32 (cenT ms (i110 + 1)).w, .flt .f32 (cenT ms (i110 + 1)).a, .flt .f32 (cenT ms (i110 + 1)).b, .flt .f32 (cenT ms (i110 + 1)).c])
      refine run_mc (φ := φ0) (pm := pmR 1 [] 5) 20 (ws := [⟨p14, 0, [.lit (.flt .f32 (some 0)), .lit (.flt .f32 (some 0)), .lit (.flt .f32 (some 0))], false⟩, ⟨p27, 0, [nF 20, nF 21, nF 22], true⟩]) (env := [(35, nI 17), (34, n1 16), (5, .ptr 1 0), (2, .ptr 0 0), (36, nI 18), (6, nF 19)]) q111 (.cons (wR r110_0 q111) (.cons (wO r110_1 q111) .nil)) (sepD (by repeat (first | exact .nil | refine .cons (by first | assumption | exact Apart.symm (by assumption)) ?_))) .nil (eC q111 (.cons c110_35 (.cons c110_34 (.cons c110_5 (.cons c110_2 (.cons ci110 (.cons cv110_6 .nil))))))) tb_ok ap_ok ?_
      refine all2 (by kernel_rfl) ?_ ?_
      ·
       intro vs ls H112 E112 st hE
       have f113 : (i110 : Int) < ((ms.length - 1 : Nat) : Int) := dt st 0
       have b114 := eo st hE 34 ((.slice l (1 * 9) (ms.length - 1) (cap - 1) 9))
       have b115 := eo st hE 36 (.int .i64 (i110 : Int))
       have b116 := eo st hE 5 (.ptr p27 0)
       have b117 := eo st hE 6 (.flt .f32 (cenT ms (i110 + 1)).w)
       have b118 := eo st hE 35 (.int .i64 ((ms.length - 1 : Nat) : Int))
       have b119 := eo st hE 2 (.ptr p14 0)
       have g120 : Grew Hi110 H112 := (gk st)
       have g121 : Grew H H112 := Grew.trans gt110 g120
       have r122 := g120.at r110_0
       have r123 := g120.at r110_1
       clear st hE vs ls
       have hlt124 : (i110 + 1) < ms.length := by omega
       obtain ⟨lS124, cap124, rest124, wr124, eS124, gB124⟩ := hS.isSl hlt124
       have gS124 := g121.at gB124
       have ne125 := apn gB124 op14
       have ne126 := apn gB124 op27
       obtain ⟨v124_0, v124_1, v124_2, v124_3, v124_4, v124_5, v124_6, v124_7, v124_8, hm124, ho124_3, ho124_4, ho124_5, ho124_6⟩ := partsMark (hr.get hlt124)
       have he124 : ms.getD (i110 + 1) [] = [.int .i32 v124_0, .int .i32 v124_1, .int .i32 v124_2, .flt .f32 v124_3, .flt .f32 v124_4, .flt .f32 v124_5, .flt .f32 v124_6, .int .i64 v124_7, .int .i64 v124_8] := by rw [← hm124, List.getD_eq_getElem?_getD, List.getElem?_eq_getElem hlt124]; rfl
       have q127 := q111.app (.cons ⟨_, rfl⟩ (.cons ⟨_, rfl⟩ (.cons ⟨_, rfl⟩ (.cons ⟨_, rfl, ho124_3⟩ (.cons ⟨_, rfl, ho124_4⟩ (.cons ⟨_, rfl, ho124_5⟩ (.cons ⟨_, rfl, ho124_6⟩ (.cons ⟨_, rfl⟩ (.cons ⟨_, rfl⟩ .nil)))))))) : KdsL [K2, K2, K2, KF, KF, KF, KF, KI, KI] [.int .i32 v124_0, .int .i32 v124_1, .int .i32 v124_2, .flt .f32 v124_3, .flt .f32 v124_4, .flt .f32 v124_5, .flt .f32 v124_6, .int .i64 v124_7, .int .i64 v124_8])
       refine run_mc (φ := φ0) (pm := pmR 2 [(.ia 9 (n1 16) (nI 18), .ptr 1 0)] 5) 20 (ws := [⟨p14, 0, [.lit (.flt .f32 (some 0)), .lit (.flt .f32 (some 0)), .lit (.flt .f32 (some 0))], false⟩, ⟨lS124, ((i110 + 1) * 9), [n2 23, n2 24, n2 25, nF 26, nF 27, nF 28, nF 29, nI 30, nI 31], false⟩, ⟨p27, 0, [nF 20, nF 21, nF 22], true⟩]) (env := [(34, n1 16), (36, nI 18), (5, .ptr 2 0), (6, nF 19), (35, nI 17), (2, .ptr 0 0)]) q127 (.cons (wR r122 q127) (.cons (win_elem hr gS124 hlt124 rfl (by rw [hm124]; exact (dL q127))) (.cons (wO r123 q127) .nil))) (sepD (by repeat (first | exact .nil | refine .cons (by first | assumption | exact Apart.symm (by assumption)) ?_))) (.cons (rule_iaV (k := i110) (dE q127) eS eS124 (dE q127) hlt124 rfl) .nil) (eC q127 (.cons b114 (.cons b115 (.cons b116 (.cons b117 (.cons b118 (.cons b119 .nil))))))) tb_ok ap_ok ?_
       refine all1 (by kernel_rfl) ?_
       intro vs ls H128 E128 st hE
       obtain ⟨w129, hw129⟩ : ∃ z, z = (fop .add .f32 (cenT ms (i110 + 1)).a (fop .mul .f32 v124_3 v124_6)) := ⟨_, rfl⟩
       obtain ⟨w130, hw130⟩ : ∃ z, z = (fop .add .f32 (cenT ms (i110 + 1)).b (fop .mul .f32 v124_4 v124_6)) := ⟨_, rfl⟩
       obtain ⟨w131, hw131⟩ : ∃ z, z = (fop .add .f32 (cenT ms (i110 + 1)).c (fop .mul .f32 v124_5 v124_6)) := ⟨_, rfl⟩
       have r132 : H128.get p27 = some (.row [.flt .f32 (fop .add .f32 (cenT ms (i110 + 1)).a (fop .mul .f32 v124_3 v124_6)), .flt .f32 (fop .add .f32 (cenT ms (i110 + 1)).b (fop .mul .f32 v124_4 v124_6)), .flt .f32 (fop .add .f32 (cenT ms (i110 + 1)).c (fop .mul .f32 v124_5 v124_6))] true) := row_whole st.inn 2 (l := p27) (b := 0) rfl (by kernel_rfl)
       obtain ⟨w133, hw133⟩ : ∃ z, z = (IntKind.wrap .i64 ((i110 : Int) + 1)) := ⟨_, rfl⟩
       have b134 : E128 36 = .int .i64 w133 := by rw [hw133]; exact eo st hE 36 _
       have b135 := eo st hE 35 (.int .i64 ((ms.length - 1 : Nat) : Int))
       have b136 := eo st hE 34 ((.slice l (1 * 9) (ms.length - 1) (cap - 1) 9))
       have b137 := eo st hE 5 (.ptr p27 0)
       have b138 := eo st hE 2 (.ptr p14 0)
       obtain ⟨w139, hw139⟩ : ∃ z, z = (fop .add .f32 (cenT ms (i110 + 1)).w v124_6) := ⟨_, rfl⟩
       have b140 : E128 6 = .flt .f32 w139 := by rw [hw139]; exact eo st hE 6 _
       have g142 : Grew H H128 := grew_own g121 st.inn.kept ⟨op27, trivial⟩
       have r143 := kept_at st.inn.kept r122 ⟨by first | assumption | exact Apart.symm (by assumption), trivial⟩
       clear st hE vs ls
       have hz9 : z110 - 1 < z110 := by omega
       have hy9 : z110 - 1 + (i110 + 1) = (ms.length - 1) := by omega
       have hi9 : E128 36 = .int .i64 ((i110 + 1 : Nat) : Int) := by rw [b134, hw133, wrap64 (by omega)]
       have hn9 : cenT ms (i110 + 1 + 1) = ⟨w129, w130, w131, w139⟩ := by
        show cenS (cenT ms (i110 + 1)) (i110 + 1) _ = _
        rw [he124, cenS_1 _ (by omega), mul_comm32 v124_6 v124_3, mul_comm32 v124_6 v124_4, mul_comm32 v124_6 v124_5]
        simp only [hw84, hw85, hw86, hw129, hw130, hw131, hw139]
       exact res_norm (by kernel_rfl) ⟨z110 - 1, hz9, i110 + 1, hy9, b135, b136, b137, b138, hi9, (by rw [hn9]; exact b140), g142, r143, (by rw [hn9, hw129, hw130, hw131]; exact r132)⟩
      ·
       intro vs ls H145 E145 st hE
       have f146 : ¬ ((i110 : Int) < ((ms.length - 1 : Nat) : Int)) := df st 0
       have b147 := eo st hE 36 (.int .i64 (i110 : Int))
       have b148 := eo st hE 35 (.int .i64 ((ms.length - 1 : Nat) : Int))
       obtain ⟨w149, hw149⟩ : ∃ z, z = (decide ((i110 : Int) < ((ms.length - 1 : Nat) : Int))) := ⟨_, rfl⟩
       have b150 : E145 37 = .bool w149 := by rw [hw149]; exact eo st hE 37 _
       have b151 := eo st hE 34 ((.slice l (1 * 9) (ms.length - 1) (cap - 1) 9))
       have b152 := eo st hE 5 (.ptr p27 0)
       have b153 := eo st hE 6 (.flt .f32 (cenT ms (i110 + 1)).w)
       have b154 := eo st hE 2 (.ptr p14 0)
       have g155 : Grew Hi110 H145 := (gk st)
       have g156 : Grew H H145 := Grew.trans gt110 g155
       have r157 := g155.at r110_0
       have r158 := g155.at r110_1
       clear st hE vs ls
       refine res_exit (id := 1) (by kernel_rfl) ?_
       have q159 := q111.app (.cons ⟨_, rfl⟩ .nil : KdsL [.bool] [.bool w149])
       refine run_mc (φ := φ0) (pm := pmR 0 [] 5) 20 (ws := [⟨p27, 0, [nF 20, nF 21, nF 22], true⟩, ⟨p14, 0, [.lit (.flt .f32 (some 0)), .lit (.flt .f32 (some 0)), .lit (.flt .f32 (some 0))], true⟩]) (env := [(36, nI 18), (35, nI 17), (37, nB 23), (34, n1 16), (5, .ptr 0 0), (6, nF 19), (2, .ptr 1 0)]) q159 (.cons (wO r158 q159) (.cons (wO r157 q159) .nil)) (sepD (by repeat (first | exact .nil | refine .cons (by first | assumption | exact Apart.symm (by assumption)) ?_))) .nil (eC q159 (.cons b147 (.cons b148 (.cons b150 (.cons b151 (.cons b152 (.cons b153 (.cons b154 .nil)))))))) tb_ok ap_ok ?_
       refine all1 (by kernel_rfl) ?_
       intro vs ls H160 E160 st hE
       refine res_ex (by kernel_rfl) (end_flat st.inn hE (.inr rfl) (a := .tuple [.agg [.flt .f32 (fop .quo .f32 (cenT ms (i110 + 1)).a (cenT ms (i110 + 1)).w), .flt .f32 (fop .quo .f32 (cenT ms (i110 + 1)).b (cenT ms (i110 + 1)).w), .flt .f32 (fop .quo .f32 (cenT ms (i110 + 1)).c (cenT ms (i110 + 1)).w)], .int .i64 0]) (by kernel_rfl) (grew_own g156 (st.inn.kept) ⟨op27, ⟨op14, trivial⟩⟩) rfl ⟨?_, rfl⟩)
       unfold centreF; rw [if_pos f9, if_neg (by omega), show ms.length = i110 + 1 by omega]
     ·
      have q161 := q25.app (.cons ⟨_, rfl, hw84 ▸ fop_ok⟩ (.cons ⟨_, rfl, hw85 ▸ fop_ok⟩ (.cons ⟨_, rfl, hw86 ▸ fop_ok⟩ (.cons rfl (.cons ⟨_, rfl⟩ .nil)))) : KdsL [KF, KF, KF, .one, KI] [.flt .f32 w84, .flt .f32 w85, .flt .f32 w86, (.slice l (1 * 9) (ms.length - 1) (cap - 1) 9), .int .i64 ((ms.length - 1 : Nat) : Int)])
      refine run_mc (φ := φ0) (pm := pmR 3 [(.slSl 9 (n1 1) (some (.lit (.int .i64 1))) none, n1 16), (.len (n1 16), nI 17)] 0) 20 (ws := [⟨p10, 0, [nF 0, n1 1], false⟩, ⟨p14, 0, [.lit (.flt .f32 (some 0)), .lit (.flt .f32 (some 0)), .lit (.flt .f32 (some 0))], false⟩, ⟨p31, 0, [n2 4, n2 5, n2 6, nF 7, nF 8, nF 9, nF 10, nI 11, nI 12], false⟩, ⟨p27, 0, [.lit (.flt .f32 (some 0)), .lit (.flt .f32 (some 0)), .lit (.flt .f32 (some 0))], true⟩]) (env := [(30, .ptr 2 6), (5, .ptr 3 0), (29, .agg [nF 13, nF 14, nF 15]), (1, .ptr 0 0), (2, .ptr 1 0)]) q161 (.cons (wR r92 q161) (.cons (wR r93 q161) (.cons (wR r95 q161) (.cons (wO r94 q161) .nil)))) (sepD (by repeat (first | exact .nil | refine .cons (by first | assumption | exact Apart.symm (by assumption)) ?_))) (.cons (rule_fromS (dE q161) eS (dE q161) (dE q161) (by omega) hcap) (.cons (rule_len (l := l) (o := 1 * 9) (n := ms.length - 1) (cap := cap - 1) (sz := 9) (dE q161) (dE q161)) .nil)) (eC q161 (.cons b82 (.cons b83 (.cons b87 (.cons b88 (.cons b89 .nil)))))) tb_ok ap_ok ?_
      refine all1 (by kernel_rfl) ?_
      have hc0 : cenT ms (0 + 1) = ⟨fop .mul .f32 v22_3 v22_6, fop .mul .f32 v22_4 v22_6, fop .mul .f32 v22_5 v22_6, v22_6⟩ := by
       show cenS (cenT ms 0) 0 _ = _
       rw [he22, cenS_0 _ rfl, show (cenT ms 0).w = some 0 from rfl, first_w hr f9 hn0 he22 (by assumption) (by assumption) (by assumption) (by assumption), mul_comm32 v22_6 v22_3, mul_comm32 v22_6 v22_4, mul_comm32 v22_6 v22_5]
      intro vs ls H162 E162 st hE
      have r163 : H162.get p27 = some (.row [.flt .f32 w84, .flt .f32 w85, .flt .f32 w86] true) := row_whole st.inn 3 (l := p27) (b := 0) rfl (by kernel_rfl)
      have b164 := eo st hE 36 (.int .i64 0)
      have b165 := eo st hE 35 (.int .i64 ((ms.length - 1 : Nat) : Int))
      have b166 := eo st hE 34 ((.slice l (1 * 9) (ms.length - 1) (cap - 1) 9))
      have b167 := eo st hE 5 (.ptr p27 0)
      have b168 := eo st hE 6 (.flt .f32 v22_6)
      have b169 := eo st hE 2 (.ptr p14 0)
      have g171 : Grew H H162 := grew_own g91 st.inn.kept ⟨op27, trivial⟩
      have r173 := kept_at st.inn.kept r93 ⟨by first | assumption | exact Apart.symm (by assumption), trivial⟩
      clear st hE vs ls
      refine res_loop (by kernel_rfl) (fun z E H' => ∃ (i : Nat), z + i = (ms.length - 1) ∧ E 35 = .int .i64 ((ms.length - 1 : Nat) : Int) ∧ E 34 = (.slice l (1 * 9) (ms.length - 1) (cap - 1) 9) ∧ E 5 = .ptr p27 0 ∧ E 2 = .ptr p14 0 ∧ E 36 = .int .i64 (i : Int) ∧ E 6 = .flt .f32 (cenT ms (i + 1)).w ∧ Grew H H' ∧ H'.get p14 = some (.row [.flt .f32 (some 0), .flt .f32 (some 0), .flt .f32 (some 0)] true) ∧ H'.get p27 = some (.row [.flt .f32 (cenT ms (i + 1)).a, .flt .f32 (cenT ms (i + 1)).b, .flt .f32 (cenT ms (i + 1)).c] true)) ((ms.length - 1)) ⟨0, by omega, b165, b166, b167, b169, b164, (by rw [hc0]; exact b168), g171, r173, (by rw [hc0, ← hw84, ← hw85, ← hw86]; exact r163)⟩ ?_
      rintro z175 Ei175 Hi175 ⟨i175, hz175, c175_35, c175_34, c175_5, c175_2, ci175, cv175_6, gt175, r175_0, r175_1⟩
      have q176 := q161.app (.cons ⟨_, rfl⟩ (.cons ⟨_, rfl, (cenT_ok ms (i175 + 1)).2.2.2⟩ (.cons ⟨_, rfl, (cenT_ok ms (i175 + 1)).1⟩ (.cons ⟨_, rfl, (cenT_ok ms (i175 + 1)).2.1⟩ (.cons ⟨_, rfl, (cenT_ok ms (i175 + 1)).2.2.1⟩ .nil)))) : KdsL [KI, KF, KF, KF, KF] [.int .i64 (i175 : Int), .flt .f32 (cenT ms (i175 + 1)).w, .flt .f32 (cenT ms (i175 + 1)).a, .flt .f32 (cenT ms (i175 + 1)).b, .flt .f32 (cenT ms (i175 + 1)).c])
      refine run_mc (φ := φ0) (pm := pmR 1 [] 5) 20 (ws := [⟨p14, 0, [.lit (.flt .f32 (some 0)), .lit (.flt .f32 (some 0)), .lit (.flt .f32 (some 0))], false⟩, ⟨p27, 0, [nF 20, nF 21, nF 22], true⟩]) (env := [(35, nI 17), (34, n1 16), (5, .ptr 1 0), (2, .ptr 0 0), (36, nI 18), (6, nF 19)]) q176 (.cons (wR r175_0 q176) (.cons (wO r175_1 q176) .nil)) (sepD (by repeat (first | exact .nil | refine .cons (by first | assumption | exact Apart.symm (by assumption)) ?_))) .nil (eC q176 (.cons c175_35 (.cons c175_34 (.cons c175_5 (.cons c175_2 (.cons ci175 (.cons cv175_6 .nil))))))) tb_ok ap_ok ?_
      refine all2 (by kernel_rfl) ?_ ?_
      ·
       intro vs ls H177 E177 st hE
       have f178 : (i175 : Int) < ((ms.length - 1 : Nat) : Int) := dt st 0
       have b179 := eo st hE 34 ((.slice l (1 * 9) (ms.length - 1) (cap - 1) 9))
       have b180 := eo st hE 36 (.int .i64 (i175 : Int))
       have b181 := eo st hE 5 (.ptr p27 0)
       have b182 := eo st hE 6 (.flt .f32 (cenT ms (i175 + 1)).w)
       have b183 := eo st hE 35 (.int .i64 ((ms.length - 1 : Nat) : Int))
       have b184 := eo st hE 2 (.ptr p14 0)
       have g185 : Grew Hi175 H177 := (gk st)
       have g186 : Grew H H177 := Grew.trans gt175 g185
       have r187 := g185.at r175_0
       have r188 := g185.at r175_1
       clear st hE vs ls
       have hlt189 : (i175 + 1) < ms.length := by omega
       obtain ⟨lS189, cap189, rest189, wr189, eS189, gB189⟩ := hS.isSl hlt189
       have gS189 := g186.at gB189
       have ne190 := apn gB189 op14
       have ne191 := apn gB189 op27
       obtain ⟨v189_0, v189_1, v189_2, v189_3, v189_4, v189_5, v189_6, v189_7, v189_8, hm189, ho189_3, ho189_4, ho189_5, ho189_6⟩ := partsMark (hr.get hlt189)
       have he189 : ms.getD (i175 + 1) [] = [.int .i32 v189_0, .int .i32 v189_1, .int .i32 v189_2, .flt .f32 v189_3, .flt .f32 v189_4, .flt .f32 v189_5, .flt .f32 v189_6, .int .i64 v189_7, .int .i64 v189_8] := by rw [← hm189, List.getD_eq_getElem?_getD, List.getElem?_eq_getElem hlt189]; rfl
       have q192 := q176.app (.cons ⟨_, rfl⟩ (.cons ⟨_, rfl⟩ (.cons ⟨_, rfl⟩ (.cons ⟨_, rfl, ho189_3⟩ (.cons ⟨_, rfl, ho189_4⟩ (.cons ⟨_, rfl, ho189_5⟩ (.cons ⟨_, rfl, ho189_6⟩ (.cons ⟨_, rfl⟩ (.cons ⟨_, rfl⟩ .nil)))))))) : KdsL [K2, K2, K2, KF, KF, KF, KF, KI, KI] [.int .i32 v189_0, .int .i32 v189_1, .int .i32 v189_2, .flt .f32 v189_3, .flt .f32 v189_4, .flt .f32 v189_5, .flt .f32 v189_6, .int .i64 v189_7, .int .i64 v189_8])
       refine run_mc (φ := φ0) (pm := pmR 2 [(.ia 9 (n1 16) (nI 18), .ptr 1 0)] 5) 20 (ws := [⟨p14, 0, [.lit (.flt .f32 (some 0)), .lit (.flt .f32 (some 0)), .lit (.flt .f32 (some 0))], false⟩, ⟨lS189, ((i175 + 1) * 9), [n2 23, n2 24, n2 25, nF 26, nF 27, nF 28, nF 29, nI 30, nI 31], false⟩, ⟨p27, 0, [nF 20, nF 21, nF 22], true⟩]) (env := [(34, n1 16), (36, nI 18), (5, .ptr 2 0), (6, nF 19), (35, nI 17), (2, .ptr 0 0)]) q192 (.cons (wR r187 q192) (.cons (win_elem hr gS189 hlt189 rfl (by rw [hm189]; exact (dL q192))) (.cons (wO r188 q192) .nil))) (sepD (by repeat (first | exact .nil | refine .cons (by first | assumption | exact Apart.symm (by assumption)) ?_))) (.cons (rule_iaV (k := i175) (dE q192) eS eS189 (dE q192) hlt189 rfl) .nil) (eC q192 (.cons b179 (.cons b180 (.cons b181 (.cons b182 (.cons b183 (.cons b184 .nil))))))) tb_ok ap_ok ?_
       refine all1 (by kernel_rfl) ?_
       intro vs ls H193 E193 st hE
       obtain ⟨w194, hw194⟩ : ∃ z, z = (fop .add .f32 (cenT ms (i175 + 1)).a (fop .mul .f32 v189_3 v189_6)) := ⟨_, rfl⟩
       obtain ⟨w195, hw195⟩ : ∃ z, z = (fop .add .f32 (cenT ms (i175 + 1)).b (fop .mul .f32 v189_4 v189_6)) := ⟨_, rfl⟩
       obtain ⟨w196, hw196⟩ : ∃ z, z = (fop .add .f32 (cenT ms (i175 + 1)).c (fop .mul .f32 v189_5 v189_6)) := ⟨_, rfl⟩
       have r197 : H193.get p27 = some (.row [.flt .f32 (fop .add .f32 (cenT ms (i175 + 1)).a (fop .mul .f32 v189_3 v189_6)), .flt .f32 (fop .add .f32 (cenT ms (i175 + 1)).b (fop .mul .f32 v189_4 v189_6)), .flt .f32 (fop .add .f32 (cenT ms (i175 + 1)).c (fop .mul .f32 v189_5 v189_6))] true) := row_whole st.inn 2 (l := p27) (b := 0) rfl (by kernel_rfl)
       obtain ⟨w198, hw198⟩ : ∃ z, z = (IntKind.wrap .i64 ((i175 : Int) + 1)) := ⟨_, rfl⟩
       have b199 : E193 36 = .int .i64 w198 := by rw [hw198]; exact eo st hE 36 _
       have b200 := eo st hE 35 (.int .i64 ((ms.length - 1 : Nat) : Int))
       have b201 := eo st hE 34 ((.slice l (1 * 9) (ms.length - 1) (cap - 1) 9))
       have b202 := eo st hE 5 (.ptr p27 0)
       have b203 := eo st hE 2 (.ptr p14 0)
       obtain ⟨w204, hw204⟩ : ∃ z, z = (fop .add .f32 (cenT ms (i175 + 1)).w v189_6) := ⟨_, rfl⟩
       have b205 : E193 6 = .flt .f32 w204 := by rw [hw204]; exact eo st hE 6 _
       have g207 : Grew H H193 := grew_own g186 st.inn.kept ⟨op27, trivial⟩
       have r208 := kept_at st.inn.kept r187 ⟨by first | assumption | exact Apart.symm (by assumption), trivial⟩
       clear st hE vs ls
       have hz9 : z175 - 1 < z175 := by omega
       have hy9 : z175 - 1 + (i175 + 1) = (ms.length - 1) := by omega
       have hi9 : E193 36 = .int .i64 ((i175 + 1 : Nat) : Int) := by rw [b199, hw198, wrap64 (by omega)]
       have hn9 : cenT ms (i175 + 1 + 1) = ⟨w194, w195, w196, w204⟩ := by
        show cenS (cenT ms (i175 + 1)) (i175 + 1) _ = _
        rw [he189, cenS_1 _ (by omega), mul_comm32 v189_6 v189_3, mul_comm32 v189_6 v189_4, mul_comm32 v189_6 v189_5]
        simp only [hw84, hw85, hw86, hw194, hw195, hw196, hw204]
       exact res_norm (by kernel_rfl) ⟨z175 - 1, hz9, i175 + 1, hy9, b200, b201, b202, b203, hi9, (by rw [hn9]; exact b205), g207, r208, (by rw [hn9, hw194, hw195, hw196]; exact r197)⟩
      ·
       intro vs ls H210 E210 st hE
       have f211 : ¬ ((i175 : Int) < ((ms.length - 1 : Nat) : Int)) := df st 0
       have b212 := eo st hE 36 (.int .i64 (i175 : Int))
       have b213 := eo st hE 35 (.int .i64 ((ms.length - 1 : Nat) : Int))
       obtain ⟨w214, hw214⟩ : ∃ z, z = (decide ((i175 : Int) < ((ms.length - 1 : Nat) : Int))) := ⟨_, rfl⟩
       have b215 : E210 37 = .bool w214 := by rw [hw214]; exact eo st hE 37 _
       have b216 := eo st hE 34 ((.slice l (1 * 9) (ms.length - 1) (cap - 1) 9))
       have b217 := eo st hE 5 (.ptr p27 0)
       have b218 := eo st hE 6 (.flt .f32 (cenT ms (i175 + 1)).w)
       have b219 := eo st hE 2 (.ptr p14 0)
       have g220 : Grew Hi175 H210 := (gk st)
       have g221 : Grew H H210 := Grew.trans gt175 g220
       have r222 := g220.at r175_0
       have r223 := g220.at r175_1
       clear st hE vs ls
       refine res_exit (id := 1) (by kernel_rfl) ?_
       have q224 := q176.app (.cons ⟨_, rfl⟩ .nil : KdsL [.bool] [.bool w214])
       refine run_mc (φ := φ0) (pm := pmR 0 [] 5) 20 (ws := [⟨p27, 0, [nF 20, nF 21, nF 22], true⟩, ⟨p14, 0, [.lit (.flt .f32 (some 0)), .lit (.flt .f32 (some 0)), .lit (.flt .f32 (some 0))], true⟩]) (env := [(36, nI 18), (35, nI 17), (37, nB 23), (34, n1 16), (5, .ptr 0 0), (6, nF 19), (2, .ptr 1 0)]) q224 (.cons (wO r223 q224) (.cons (wO r222 q224) .nil)) (sepD (by repeat (first | exact .nil | refine .cons (by first | assumption | exact Apart.symm (by assumption)) ?_))) .nil (eC q224 (.cons b212 (.cons b213 (.cons b215 (.cons b216 (.cons b217 (.cons b218 (.cons b219 .nil)))))))) tb_ok ap_ok ?_
       refine all1 (by kernel_rfl) ?_
       intro vs ls H225 E225 st hE
       refine res_ex (by kernel_rfl) (end_flat st.inn hE (.inr rfl) (a := .tuple [.agg [.flt .f32 (fop .quo .f32 (cenT ms (i175 + 1)).a (cenT ms (i175 + 1)).w), .flt .f32 (fop .quo .f32 (cenT ms (i175 + 1)).b (cenT ms (i175 + 1)).w), .flt .f32 (fop .quo .f32 (cenT ms (i175 + 1)).c (cenT ms (i175 + 1)).w)], .int .i64 0]) (by kernel_rfl) (grew_own g221 (st.inn.kept) ⟨op27, ⟨op14, trivial⟩⟩) rfl ⟨?_, rfl⟩)
       unfold centreF; rw [if_pos f9, if_neg (by omega), show ms.length = i175 + 1 by omega]
    ·
     have q226 := q25.app (.cons rfl (.cons ⟨_, rfl⟩ .nil) : KdsL [.one, KI] [(.slice l (1 * 9) (ms.length - 1) (cap - 1) 9), .int .i64 ((ms.length - 1 : Nat) : Int)])
     refine run_mc (φ := φ0) (pm := pmR 3 [(.slSl 9 (n1 1) (some (.lit (.int .i64 1))) none, n1 13), (.len (n1 13), nI 14)] 0) 20 (ws := [⟨p10, 0, [nF 0, n1 1], false⟩, ⟨p14, 0, [.lit (.flt .f32 (some 0)), .lit (.flt .f32 (some 0)), .lit (.flt .f32 (some 0))], false⟩, ⟨p31, 0, [n2 4, n2 5, n2 6, nF 7, nF 8, nF 9, nF 10, nI 11, nI 12], false⟩, ⟨p27, 0, [.lit (.flt .f32 (some 0)), .lit (.flt .f32 (some 0)), .lit (.flt .f32 (some 0))], true⟩]) (env := [(26, .agg [nF 7, nF 8, nF 9]), (28, nF 10), (30, .ptr 2 6), (5, .ptr 3 0), (1, .ptr 0 0), (2, .ptr 1 0)]) q226 (.cons (wR r76 q226) (.cons (wR r77 q226) (.cons (wR r79 q226) (.cons (wO r78 q226) .nil)))) (sepD (by repeat (first | exact .nil | refine .cons (by first | assumption | exact Apart.symm (by assumption)) ?_))) (.cons (rule_fromS (dE q226) eS (dE q226) (dE q226) (by omega) hcap) (.cons (rule_len (l := l) (o := 1 * 9) (n := ms.length - 1) (cap := cap - 1) (sz := 9) (dE q226) (dE q226)) .nil)) (eC q226 (.cons b68 (.cons b69 (.cons b70 (.cons b71 (.cons b72 (.cons b73 .nil))))))) tb_ok ap_ok ?_
     refine all1 (by kernel_rfl) ?_
     have hc0 : cenT ms (0 + 1) = ⟨fop .mul .f32 v22_3 v22_6, fop .mul .f32 v22_4 v22_6, fop .mul .f32 v22_5 v22_6, v22_6⟩ := by
      show cenS (cenT ms 0) 0 _ = _
      rw [he22, cenS_0 _ rfl, show (cenT ms 0).w = some 0 from rfl, first_w hr f9 hn0 he22 (by assumption) (by assumption) (by assumption) (by assumption), mul_comm32 v22_6 v22_3, mul_comm32 v22_6 v22_4, mul_comm32 v22_6 v22_5]
     intro vs ls H227 E227 st hE
     obtain ⟨w228, hw228⟩ : ∃ z, z = (fop .mul .f32 v22_3 v22_6) := ⟨_, rfl⟩
     obtain ⟨w229, hw229⟩ : ∃ z, z = (fop .mul .f32 v22_4 v22_6) := ⟨_, rfl⟩
     obtain ⟨w230, hw230⟩ : ∃ z, z = (fop .mul .f32 v22_5 v22_6) := ⟨_, rfl⟩
     have r231 : H227.get p27 = some (.row [.flt .f32 (fop .mul .f32 v22_3 v22_6), .flt .f32 (fop .mul .f32 v22_4 v22_6), .flt .f32 (fop .mul .f32 v22_5 v22_6)] true) := row_whole st.inn 3 (l := p27) (b := 0) rfl (by kernel_rfl)
     have b232 := eo st hE 36 (.int .i64 0)
     have b233 := eo st hE 35 (.int .i64 ((ms.length - 1 : Nat) : Int))
     have b234 := eo st hE 34 ((.slice l (1 * 9) (ms.length - 1) (cap - 1) 9))
     have b235 := eo st hE 5 (.ptr p27 0)
     have b236 := eo st hE 6 (.flt .f32 v22_6)
     have b237 := eo st hE 2 (.ptr p14 0)
     have g239 : Grew H H227 := grew_own g75 st.inn.kept ⟨op27, trivial⟩
     have r241 := kept_at st.inn.kept r77 ⟨by first | assumption | exact Apart.symm (by assumption), trivial⟩
     clear st hE vs ls
     refine res_loop (by kernel_rfl) (fun z E H' => ∃ (i : Nat), z + i = (ms.length - 1) ∧ E 35 = .int .i64 ((ms.length - 1 : Nat) : Int) ∧ E 34 = (.slice l (1 * 9) (ms.length - 1) (cap - 1) 9) ∧ E 5 = .ptr p27 0 ∧ E 2 = .ptr p14 0 ∧ E 36 = .int .i64 (i : Int) ∧ E 6 = .flt .f32 (cenT ms (i + 1)).w ∧ Grew H H' ∧ H'.get p14 = some (.row [.flt .f32 (some 0), .flt .f32 (some 0), .flt .f32 (some 0)] true) ∧ H'.get p27 = some (.row [.flt .f32 (cenT ms (i + 1)).a, .flt .f32 (cenT ms (i + 1)).b, .flt .f32 (cenT ms (i + 1)).c] true)) ((ms.length - 1)) ⟨0, by omega, b233, b234, b235, b237, b232, (by rw [hc0]; exact b236), g239, r241, (by rw [hc0]; exact r231)⟩ ?_
     rintro z243 Ei243 Hi243 ⟨i243, hz243, c243_35, c243_34, c243_5, c243_2, ci243, cv243_6, gt243, r243_0, r243_1⟩
     have q244 := q226.app (.cons ⟨_, rfl, hw228 ▸ fop_ok⟩ (.cons ⟨_, rfl, hw229 ▸ fop_ok⟩ (.cons ⟨_, rfl, hw230 ▸ fop_ok⟩ (.cons ⟨_, rfl⟩ (.cons ⟨_, rfl, (cenT_ok ms (i243 + 1)).2.2.2⟩ (.cons ⟨_, rfl, (cenT_ok ms (i243 + 1)).1⟩ (.cons ⟨_, rfl, (cenT_ok ms (i243 + 1)).2.1⟩ (.cons ⟨_, rfl, (cenT_ok ms (i243 + 1)).2.2.1⟩ .nil))))))) : KdsL [KF, KF, KF, KI, KF, KF, KF, KF] [.flt .f32 w228, .flt .f32 w229, .flt .f32 w230, .int .i64 (i243 : Int), .flt .f32 (cenT ms (i243 + 1)).w, .flt .f32 (cenT ms (i243 + 1)).a, .flt .f32 (cenT ms (i243 + 1)).b, .flt .f32 (cenT ms (i243 + 1)).c])
     refine run_mc (φ := φ0) (pm := pmR 1 [] 5) 20 (ws := [⟨p14, 0, [.lit (.flt .f32 (some 0)), .lit (.flt .f32 (some 0)), .lit (.flt .f32 (some 0))], false⟩, ⟨p27, 0, [nF 20, nF 21, nF 22], true⟩]) (env := [(35, nI 14), (34, n1 13), (5, .ptr 1 0), (2, .ptr 0 0), (36, nI 18), (6, nF 19)]) q244 (.cons (wR r243_0 q244) (.cons (wO r243_1 q244) .nil)) (sepD (by repeat (first | exact .nil | refine .cons (by first | assumption | exact Apart.symm (by assumption)) ?_))) .nil (eC q244 (.cons c243_35 (.cons c243_34 (.cons c243_5 (.cons c243_2 (.cons ci243 (.cons cv243_6 .nil))))))) tb_ok ap_ok ?_
     refine all2 (by kernel_rfl) ?_ ?_
     ·
      intro vs ls H245 E245 st hE
      have f246 : (i243 : Int) < ((ms.length - 1 : Nat) : Int) := dt st 0
      have b247 := eo st hE 34 ((.slice l (1 * 9) (ms.length - 1) (cap - 1) 9))
      have b248 := eo st hE 36 (.int .i64 (i243 : Int))
      have b249 := eo st hE 5 (.ptr p27 0)
      have b250 := eo st hE 6 (.flt .f32 (cenT ms (i243 + 1)).w)
      have b251 := eo st hE 35 (.int .i64 ((ms.length - 1 : Nat) : Int))
      have b252 := eo st hE 2 (.ptr p14 0)
      have g253 : Grew Hi243 H245 := (gk st)
      have g254 : Grew H H245 := Grew.trans gt243 g253
      have r255 := g253.at r243_0
      have r256 := g253.at r243_1
      clear st hE vs ls
      have hlt257 : (i243 + 1) < ms.length := by omega
      obtain ⟨lS257, cap257, rest257, wr257, eS257, gB257⟩ := hS.isSl hlt257
      have gS257 := g254.at gB257
      have ne258 := apn gB257 op14
      have ne259 := apn gB257 op27
      obtain ⟨v257_0, v257_1, v257_2, v257_3, v257_4, v257_5, v257_6, v257_7, v257_8, hm257, ho257_3, ho257_4, ho257_5, ho257_6⟩ := partsMark (hr.get hlt257)
      have he257 : ms.getD (i243 + 1) [] = [.int .i32 v257_0, .int .i32 v257_1, .int .i32 v257_2, .flt .f32 v257_3, .flt .f32 v257_4, .flt .f32 v257_5, .flt .f32 v257_6, .int .i64 v257_7, .int .i64 v257_8] := by rw [← hm257, List.getD_eq_getElem?_getD, List.getElem?_eq_getElem hlt257]; rfl
      have q260 := q244.app (.cons ⟨_, rfl⟩ (.cons ⟨_, rfl⟩ (.cons ⟨_, rfl⟩ (.cons ⟨_, rfl, ho257_3⟩ (.cons ⟨_, rfl, ho257_4⟩ (.cons ⟨_, rfl, ho257_5⟩ (.cons ⟨_, rfl, ho257_6⟩ (.cons ⟨_, rfl⟩ (.cons ⟨_, rfl⟩ .nil)))))))) : KdsL [K2, K2, K2, KF, KF, KF, KF, KI, KI] [.int .i32 v257_0, .int .i32 v257_1, .int .i32 v257_2, .flt .f32 v257_3, .flt .f32 v257_4, .flt .f32 v257_5, .flt .f32 v257_6, .int .i64 v257_7, .int .i64 v257_8])
      refine run_mc (φ := φ0) (pm := pmR 2 [(.ia 9 (n1 13) (nI 18), .ptr 1 0)] 5) 20 (ws := [⟨p14, 0, [.lit (.flt .f32 (some 0)), .lit (.flt .f32 (some 0)), .lit (.flt .f32 (some 0))], false⟩, ⟨lS257, ((i243 + 1) * 9), [n2 23, n2 24, n2 25, nF 26, nF 27, nF 28, nF 29, nI 30, nI 31], false⟩, ⟨p27, 0, [nF 20, nF 21, nF 22], true⟩]) (env := [(34, n1 13), (36, nI 18), (5, .ptr 2 0), (6, nF 19), (35, nI 14), (2, .ptr 0 0)]) q260 (.cons (wR r255 q260) (.cons (win_elem hr gS257 hlt257 rfl (by rw [hm257]; exact (dL q260))) (.cons (wO r256 q260) .nil))) (sepD (by repeat (first | exact .nil | refine .cons (by first | assumption | exact Apart.symm (by assumption)) ?_))) (.cons (rule_iaV (k := i243) (dE q260) eS eS257 (dE q260) hlt257 rfl) .nil) (eC q260 (.cons b247 (.cons b248 (.cons b249 (.cons b250 (.cons b251 (.cons b252 .nil))))))) tb_ok ap_ok ?_
      refine all1 (by kernel_rfl) ?_
      intro vs ls H261 E261 st hE
      obtain ⟨w262, hw262⟩ : ∃ z, z = (fop .add .f32 (cenT ms (i243 + 1)).a (fop .mul .f32 v257_3 v257_6)) := ⟨_, rfl⟩
      obtain ⟨w263, hw263⟩ : ∃ z, z = (fop .add .f32 (cenT ms (i243 + 1)).b (fop .mul .f32 v257_4 v257_6)) := ⟨_, rfl⟩
      obtain ⟨w264, hw264⟩ : ∃ z, z = (fop .add .f32 (cenT ms (i243 + 1)).c (fop .mul .f32 v257_5 v257_6)) := ⟨_, rfl⟩
      have r265 : H261.get p27 = some (.row [.flt .f32 (fop .add .f32 (cenT ms (i243 + 1)).a (fop .mul .f32 v257_3 v257_6)), .flt .f32 (fop .add .f32 (cenT ms (i243 + 1)).b (fop .mul .f32 v257_4 v257_6)), .flt .f32 (fop .add .f32 (cenT ms (i243 + 1)).c (fop .mul .f32 v257_5 v257_6))] true) := row_whole st.inn 2 (l := p27) (b := 0) rfl (by kernel_rfl)
      obtain ⟨w266, hw266⟩ : ∃ z, z = (IntKind.wrap .i64 ((i243 : Int) + 1)) := ⟨_, rfl⟩
      have b267 : E261 36 = .int .i64 w266 := by rw [hw266]; exact eo st hE 36 _
      have b268 := eo st hE 35 (.int .i64 ((ms.length - 1 : Nat) : Int))
      have b269 := eo st hE 34 ((.slice l (1 * 9) (ms.length - 1) (cap - 1) 9))
      have b270 := eo st hE 5 (.ptr p27 0)
      have b271 := eo st hE 2 (.ptr p14 0)
      obtain ⟨w272, hw272⟩ : ∃ z, z = (fop .add .f32 (cenT ms (i243 + 1)).w v257_6) := ⟨_, rfl⟩
      have b273 : E261 6 = .flt .f32 w272 := by rw [hw272]; exact eo st hE 6 _
      have g275 : Grew H H261 := grew_own g254 st.inn.kept ⟨op27, trivial⟩
      have r276 := kept_at st.inn.kept r255 ⟨by first | assumption | exact Apart.symm (by assumption), trivial⟩
      clear st hE vs ls
      have hz9 : z243 - 1 < z243 := by omega
      have hy9 : z243 - 1 + (i243 + 1) = (ms.length - 1) := by omega
      have hi9 : E261 36 = .int .i64 ((i243 + 1 : Nat) : Int) := by rw [b267, hw266, wrap64 (by omega)]
      have hn9 : cenT ms (i243 + 1 + 1) = ⟨w262, w263, w264, w272⟩ := by
       show cenS (cenT ms (i243 + 1)) (i243 + 1) _ = _
       rw [he257, cenS_1 _ (by omega), mul_comm32 v257_6 v257_3, mul_comm32 v257_6 v257_4, mul_comm32 v257_6 v257_5]
       simp only [hw228, hw229, hw230, hw262, hw263, hw264, hw272]
      exact res_norm (by kernel_rfl) ⟨z243 - 1, hz9, i243 + 1, hy9, b268, b269, b270, b271, hi9, (by rw [hn9]; exact b273), g275, r276, (by rw [hn9, hw262, hw263, hw264]; exact r265)⟩
     ·
      intro vs ls H278 E278 st hE
      have f279 : ¬ ((i243 : Int) < ((ms.length - 1 : Nat) : Int)) := df st 0
      have b280 := eo st hE 36 (.int .i64 (i243 : Int))
      have b281 := eo st hE 35 (.int .i64 ((ms.length - 1 : Nat) : Int))
      obtain ⟨w282, hw282⟩ : ∃ z, z = (decide ((i243 : Int) < ((ms.length - 1 : Nat) : Int))) := ⟨_, rfl⟩
      have b283 : E278 37 = .bool w282 := by rw [hw282]; exact eo st hE 37 _
      have b284 := eo st hE 34 ((.slice l (1 * 9) (ms.length - 1) (cap - 1) 9))
      have b285 := eo st hE 5 (.ptr p27 0)
      have b286 := eo st hE 6 (.flt .f32 (cenT ms (i243 + 1)).w)
      have b287 := eo st hE 2 (.ptr p14 0)
      have g288 : Grew Hi243 H278 := (gk st)
      have g289 : Grew H H278 := Grew.trans gt243 g288
      have r290 := g288.at r243_0
      have r291 := g288.at r243_1
      clear st hE vs ls
      refine res_exit (id := 1) (by kernel_rfl) ?_
      have q292 := q244.app (.cons ⟨_, rfl⟩ .nil : KdsL [.bool] [.bool w282])
      refine run_mc (φ := φ0) (pm := pmR 0 [] 5) 20 (ws := [⟨p27, 0, [nF 20, nF 21, nF 22], true⟩, ⟨p14, 0, [.lit (.flt .f32 (some 0)), .lit (.flt .f32 (some 0)), .lit (.flt .f32 (some 0))], true⟩]) (env := [(36, nI 18), (35, nI 14), (37, nB 23), (34, n1 13), (5, .ptr 0 0), (6, nF 19), (2, .ptr 1 0)]) q292 (.cons (wO r291 q292) (.cons (wO r290 q292) .nil)) (sepD (by repeat (first | exact .nil | refine .cons (by first | assumption | exact Apart.symm (by assumption)) ?_))) .nil (eC q292 (.cons b280 (.cons b281 (.cons b283 (.cons b284 (.cons b285 (.cons b286 (.cons b287 .nil)))))))) tb_ok ap_ok ?_
      refine all1 (by kernel_rfl) ?_
      intro vs ls H293 E293 st hE
      refine res_ex (by kernel_rfl) (end_flat st.inn hE (.inr rfl) (a := .tuple [.agg [.flt .f32 (fop .quo .f32 (cenT ms (i243 + 1)).a (cenT ms (i243 + 1)).w), .flt .f32 (fop .quo .f32 (cenT ms (i243 + 1)).b (cenT ms (i243 + 1)).w), .flt .f32 (fop .quo .f32 (cenT ms (i243 + 1)).c (cenT ms (i243 + 1)).w)], .int .i64 0]) (by kernel_rfl) (grew_own g289 (st.inn.kept) ⟨op27, ⟨op14, trivial⟩⟩) rfl ⟨?_, rfl⟩)
      unfold centreF; rw [if_pos f9, if_neg (by omega), show ms.length = i243 + 1 by omega]
   ·
    have q294 := q25.app (.cons rfl (.cons ⟨_, rfl⟩ .nil) : KdsL [.one, KI] [(.slice l (1 * 9) (ms.length - 1) (cap - 1) 9), .int .i64 ((ms.length - 1 : Nat) : Int)])
    refine run_mc (φ := φ0) (pm := pmR 3 [(.slSl 9 (n1 1) (some (.lit (.int .i64 1))) none, n1 13), (.len (n1 13), nI 14)] 0) 20 (ws := [⟨p10, 0, [nF 0, n1 1], false⟩, ⟨p14, 0, [.lit (.flt .f32 (some 0)), .lit (.flt .f32 (some 0)), .lit (.flt .f32 (some 0))], false⟩, ⟨p31, 0, [n2 4, n2 5, n2 6, nF 7, nF 8, nF 9, nF 10, nI 11, nI 12], false⟩, ⟨p27, 0, [.lit (.flt .f32 (some 0)), .lit (.flt .f32 (some 0)), .lit (.flt .f32 (some 0))], true⟩]) (env := [(27, .ptr 2 6), (26, .agg [nF 7, nF 8, nF 9]), (30, .ptr 2 6), (5, .ptr 3 0), (1, .ptr 0 0), (2, .ptr 1 0)]) q294 (.cons (wR r62 q294) (.cons (wR r63 q294) (.cons (wR r65 q294) (.cons (wO r64 q294) .nil)))) (sepD (by repeat (first | exact .nil | refine .cons (by first | assumption | exact Apart.symm (by assumption)) ?_))) (.cons (rule_fromS (dE q294) eS (dE q294) (dE q294) (by omega) hcap) (.cons (rule_len (l := l) (o := 1 * 9) (n := ms.length - 1) (cap := cap - 1) (sz := 9) (dE q294) (dE q294)) .nil)) (eC q294 (.cons b54 (.cons b55 (.cons b56 (.cons b57 (.cons b58 (.cons b59 .nil))))))) tb_ok ap_ok ?_
    refine all1 (by kernel_rfl) ?_
    have hc0 : cenT ms (0 + 1) = ⟨fop .mul .f32 v22_3 v22_6, fop .mul .f32 v22_4 v22_6, fop .mul .f32 v22_5 v22_6, v22_6⟩ := by
     show cenS (cenT ms 0) 0 _ = _
     rw [he22, cenS_0 _ rfl, show (cenT ms 0).w = some 0 from rfl, first_w hr f9 hn0 he22 (by assumption) (by assumption) (by assumption) (by assumption), mul_comm32 v22_6 v22_3, mul_comm32 v22_6 v22_4, mul_comm32 v22_6 v22_5]
    intro vs ls H295 E295 st hE
    obtain ⟨w296, hw296⟩ : ∃ z, z = (fop .mul .f32 v22_3 v22_6) := ⟨_, rfl⟩
    obtain ⟨w297, hw297⟩ : ∃ z, z = (fop .mul .f32 v22_4 v22_6) := ⟨_, rfl⟩
    obtain ⟨w298, hw298⟩ : ∃ z, z = (fop .mul .f32 v22_5 v22_6) := ⟨_, rfl⟩
    have r299 : H295.get p27 = some (.row [.flt .f32 (fop .mul .f32 v22_3 v22_6), .flt .f32 (fop .mul .f32 v22_4 v22_6), .flt .f32 (fop .mul .f32 v22_5 v22_6)] true) := row_whole st.inn 3 (l := p27) (b := 0) rfl (by kernel_rfl)
    have b300 := eo st hE 36 (.int .i64 0)
    have b301 := eo st hE 35 (.int .i64 ((ms.length - 1 : Nat) : Int))
    have b302 := eo st hE 34 ((.slice l (1 * 9) (ms.length - 1) (cap - 1) 9))
    have b303 := eo st hE 5 (.ptr p27 0)
    have b304 := eo st hE 6 (.flt .f32 v22_6)
    have b305 := eo st hE 2 (.ptr p14 0)
    have g307 : Grew H H295 := grew_own g61 st.inn.kept ⟨op27, trivial⟩
    have r309 := kept_at st.inn.kept r63 ⟨by first | assumption | exact Apart.symm (by assumption), trivial⟩
    clear st hE vs ls
    refine res_loop (by kernel_rfl) (fun z E H' => ∃ (i : Nat), z + i = (ms.length - 1) ∧ E 35 = .int .i64 ((ms.length - 1 : Nat) : Int) ∧ E 34 = (.slice l (1 * 9) (ms.length - 1) (cap - 1) 9) ∧ E 5 = .ptr p27 0 ∧ E 2 = .ptr p14 0 ∧ E 36 = .int .i64 (i : Int) ∧ E 6 = .flt .f32 (cenT ms (i + 1)).w ∧ Grew H H' ∧ H'.get p14 = some (.row [.flt .f32 (some 0), .flt .f32 (some 0), .flt .f32 (some 0)] true) ∧ H'.get p27 = some (.row [.flt .f32 (cenT ms (i + 1)).a, .flt .f32 (cenT ms (i + 1)).b, .flt .f32 (cenT ms (i + 1)).c] true)) ((ms.length - 1)) ⟨0, by omega, b301, b302, b303, b305, b300, (by rw [hc0]; exact b304), g307, r309, (by rw [hc0]; exact r299)⟩ ?_
    rintro z311 Ei311 Hi311 ⟨i311, hz311, c311_35, c311_34, c311_5, c311_2, ci311, cv311_6, gt311, r311_0, r311_1⟩
    have q312 := q294.app (.cons ⟨_, rfl, hw296 ▸ fop_ok⟩ (.cons ⟨_, rfl, hw297 ▸ fop_ok⟩ (.cons ⟨_, rfl, hw298 ▸ fop_ok⟩ (.cons ⟨_, rfl⟩ (.cons ⟨_, rfl, (cenT_ok ms (i311 + 1)).2.2.2⟩ (.cons ⟨_, rfl, (cenT_ok ms (i311 + 1)).1⟩ (.cons ⟨_, rfl, (cenT_ok ms (i311 + 1)).2.1⟩ (.cons ⟨_, rfl, (cenT_ok ms (i311 + 1)).2.2.1⟩ .nil))))))) : KdsL [KF, KF, KF, KI, KF, KF, KF, KF] [.flt .f32 w296, .flt .f32 w297, .flt .f32 w298, .int .i64 (i311 : Int), .flt .f32 (cenT ms (i311 + 1)).w, .flt .f32 (cenT ms (i311 + 1)).a, .flt .f32 (cenT ms (i311 + 1)).b, .flt .f32 (cenT ms (i311 + 1)).c])
    refine run_mc (φ := φ0) (pm := pmR 1 [] 5) 20 (ws := [⟨p14, 0, [.lit (.flt .f32 (some 0)), .lit (.flt .f32 (some 0)), .lit (.flt .f32 (some 0))], false⟩, ⟨p27, 0, [nF 20, nF 21, nF 22], true⟩]) (env := [(35, nI 14), (34, n1 13), (5, .ptr 1 0), (2, .ptr 0 0), (36, nI 18), (6, nF 19)]) q312 (.cons (wR r311_0 q312) (.cons (wO r311_1 q312) .nil)) (sepD (by repeat (first | exact .nil | refine .cons (by first | assumption | exact Apart.symm (by assumption)) ?_))) .nil (eC q312 (.cons c311_35 (.cons c311_34 (.cons c311_5 (.cons c311_2 (.cons ci311 (.cons cv311_6 .nil))))))) tb_ok ap_ok ?_
    refine all2 (by kernel_rfl) ?_ ?_
    ·
     intro vs ls H313 E313 st hE
     have f314 : (i311 : Int) < ((ms.length - 1 : Nat) : Int) := dt st 0
     have b315 := eo st hE 34 ((.slice l (1 * 9) (ms.length - 1) (cap - 1) 9))
     have b316 := eo st hE 36 (.int .i64 (i311 : Int))
     have b317 := eo st hE 5 (.ptr p27 0)
     have b318 := eo st hE 6 (.flt .f32 (cenT ms (i311 + 1)).w)
     have b319 := eo st hE 35 (.int .i64 ((ms.length - 1 : Nat) : Int))
     have b320 := eo st hE 2 (.ptr p14 0)
     have g321 : Grew Hi311 H313 := (gk st)
     have g322 : Grew H H313 := Grew.trans gt311 g321
     have r323 := g321.at r311_0
     have r324 := g321.at r311_1
     clear st hE vs ls
     have hlt325 : (i311 + 1) < ms.length := by omega
     obtain ⟨lS325, cap325, rest325, wr325, eS325, gB325⟩ := hS.isSl hlt325
     have gS325 := g322.at gB325
     have ne326 := apn gB325 op14
     have ne327 := apn gB325 op27
     obtain ⟨v325_0, v325_1, v325_2, v325_3, v325_4, v325_5, v325_6, v325_7, v325_8, hm325, ho325_3, ho325_4, ho325_5, ho325_6⟩ := partsMark (hr.get hlt325)
     have he325 : ms.getD (i311 + 1) [] = [.int .i32 v325_0, .int .i32 v325_1, .int .i32 v325_2, .flt .f32 v325_3, .flt .f32 v325_4, .flt .f32 v325_5, .flt .f32 v325_6, .int .i64 v325_7, .int .i64 v325_8] := by rw [← hm325, List.getD_eq_getElem?_getD, List.getElem?_eq_getElem hlt325]; rfl
     have q328 := q312.app (.cons ⟨_, rfl⟩ (.cons ⟨_, rfl⟩ (.cons ⟨_, rfl⟩ (.cons ⟨_, rfl, ho325_3⟩ (.cons ⟨_, rfl, ho325_4⟩ (.cons ⟨_, rfl, ho325_5⟩ (.cons ⟨_, rfl, ho325_6⟩ (.cons ⟨_, rfl⟩ (.cons ⟨_, rfl⟩ .nil)))))))) : KdsL [K2, K2, K2, KF, KF, KF, KF, KI, KI] [.int .i32 v325_0, .int .i32 v325_1, .int .i32 v325_2, .flt .f32 v325_3, .flt .f32 v325_4, .flt .f32 v325_5, .flt .f32 v325_6, .int .i64 v325_7, .int .i64 v325_8])
     refine run_mc (φ := φ0) (pm := pmR 2 [(.ia 9 (n1 13) (nI 18), .ptr 1 0)] 5) 20 (ws := [⟨p14, 0, [.lit (.flt .f32 (some 0)), .lit (.flt .f32 (some 0)), .lit (.flt .f32 (some 0))], false⟩, ⟨lS325, ((i311 + 1) * 9), [n2 23, n2 24, n2 25, nF 26, nF 27, nF 28, nF 29, nI 30, nI 31], false⟩, ⟨p27, 0, [nF 20, nF 21, nF 22], true⟩]) (env := [(34, n1 13), (36, nI 18), (5, .ptr 2 0), (6, nF 19), (35, nI 14), (2, .ptr 0 0)]) q328 (.cons (wR r323 q328) (.cons (win_elem hr gS325 hlt325 rfl (by rw [hm325]; exact (dL q328))) (.cons (wO r324 q328) .nil))) (sepD (by repeat (first | exact .nil | refine .cons (by first | assumption | exact Apart.symm (by assumption)) ?_))) (.cons (rule_iaV (k := i311) (dE q328) eS eS325 (dE q328) hlt325 rfl) .nil) (eC q328 (.cons b315 (.cons b316 (.cons b317 (.cons b318 (.cons b319 (.cons b320 .nil))))))) tb_ok ap_ok ?_
     refine all1 (by kernel_rfl) ?_
     intro vs ls H329 E329 st hE
     obtain ⟨w330, hw330⟩ : ∃ z, z = (fop .add .f32 (cenT ms (i311 + 1)).a (fop .mul .f32 v325_3 v325_6)) := ⟨_, rfl⟩
     obtain ⟨w331, hw331⟩ : ∃ z, z = (fop .add .f32 (cenT ms (i311 + 1)).b (fop .mul .f32 v325_4 v325_6)) := ⟨_, rfl⟩
     obtain ⟨w332, hw332⟩ : ∃ z, z = (fop .add .f32 (cenT ms (i311 + 1)).c (fop .mul .f32 v325_5 v325_6)) := ⟨_, rfl⟩
     have r333 : H329.get p27 = some (.row [.flt .f32 (fop .add .f32 (cenT ms (i311 + 1)).a (fop .mul .f32 v325_3 v325_6)), .flt .f32 (fop .add .f32 (cenT ms (i311 + 1)).b (fop .mul .f32 v325_4 v325_6)), .flt .f32 (fop .add .f32 (cenT ms (i311 + 1)).c (fop .mul .f32 v325_5 v325_6))] true) := row_whole st.inn 2 (l := p27) (b := 0) rfl (by kernel_rfl)
     obtain ⟨w334, hw334⟩ : ∃ z, z = (IntKind.wrap .i64 ((i311 : Int) + 1)) := ⟨_, rfl⟩
     have b335 : E329 36 = .int .i64 w334 := by rw [hw334]; exact eo st hE 36 _
     have b336 := eo st hE 35 (.int .i64 ((ms.length - 1 : Nat) : Int))
     have b337 := eo st hE 34 ((.slice l (1 * 9) (ms.length - 1) (cap - 1) 9))
     have b338 := eo st hE 5 (.ptr p27 0)
     have b339 := eo st hE 2 (.ptr p14 0)
     obtain ⟨w340, hw340⟩ : ∃ z, z = (fop .add .f32 (cenT ms (i311 + 1)).w v325_6) := ⟨_, rfl⟩
     have b341 : E329 6 = .flt .f32 w340 := by rw [hw340]; exact eo st hE 6 _
     have g343 : Grew H H329 := grew_own g322 st.inn.kept ⟨op27, trivial⟩
     have r344 := kept_at st.inn.kept r323 ⟨by first | assumption | exact Apart.symm (by assumption), trivial⟩
     clear st hE vs ls
     have hz9 : z311 - 1 < z311 := by omega
     have hy9 : z311 - 1 + (i311 + 1) = (ms.length - 1) := by omega
     have hi9 : E329 36 = .int .i64 ((i311 + 1 : Nat) : Int) := by rw [b335, hw334, wrap64 (by omega)]
     have hn9 : cenT ms (i311 + 1 + 1) = ⟨w330, w331, w332, w340⟩ := by
      show cenS (cenT ms (i311 + 1)) (i311 + 1) _ = _
      rw [he325, cenS_1 _ (by omega), mul_comm32 v325_6 v325_3, mul_comm32 v325_6 v325_4, mul_comm32 v325_6 v325_5]
      simp only [hw296, hw297, hw298, hw330, hw331, hw332, hw340]
     exact res_norm (by kernel_rfl) ⟨z311 - 1, hz9, i311 + 1, hy9, b336, b337, b338, b339, hi9, (by rw [hn9]; exact b341), g343, r344, (by rw [hn9, hw330, hw331, hw332]; exact r333)⟩
    ·
     intro vs ls H346 E346 st hE
     have f347 : ¬ ((i311 : Int) < ((ms.length - 1 : Nat) : Int)) := df st 0
     have b348 := eo st hE 36 (.int .i64 (i311 : Int))
     have b349 := eo st hE 35 (.int .i64 ((ms.length - 1 : Nat) : Int))
     obtain ⟨w350, hw350⟩ : ∃ z, z = (decide ((i311 : Int) < ((ms.length - 1 : Nat) : Int))) := ⟨_, rfl⟩
     have b351 : E346 37 = .bool w350 := by rw [hw350]; exact eo st hE 37 _
     have b352 := eo st hE 34 ((.slice l (1 * 9) (ms.length - 1) (cap - 1) 9))
     have b353 := eo st hE 5 (.ptr p27 0)
     have b354 := eo st hE 6 (.flt .f32 (cenT ms (i311 + 1)).w)
     have b355 := eo st hE 2 (.ptr p14 0)
     have g356 : Grew Hi311 H346 := (gk st)
     have g357 : Grew H H346 := Grew.trans gt311 g356
     have r358 := g356.at r311_0
     have r359 := g356.at r311_1
     clear st hE vs ls
     refine res_exit (id := 1) (by kernel_rfl) ?_
     have q360 := q312.app (.cons ⟨_, rfl⟩ .nil : KdsL [.bool] [.bool w350])
     refine run_mc (φ := φ0) (pm := pmR 0 [] 5) 20 (ws := [⟨p27, 0, [nF 20, nF 21, nF 22], true⟩, ⟨p14, 0, [.lit (.flt .f32 (some 0)), .lit (.flt .f32 (some 0)), .lit (.flt .f32 (some 0))], true⟩]) (env := [(36, nI 18), (35, nI 14), (37, nB 23), (34, n1 13), (5, .ptr 0 0), (6, nF 19), (2, .ptr 1 0)]) q360 (.cons (wO r359 q360) (.cons (wO r358 q360) .nil)) (sepD (by repeat (first | exact .nil | refine .cons (by first | assumption | exact Apart.symm (by assumption)) ?_))) .nil (eC q360 (.cons b348 (.cons b349 (.cons b351 (.cons b352 (.cons b353 (.cons b354 (.cons b355 .nil)))))))) tb_ok ap_ok ?_
     refine all1 (by kernel_rfl) ?_
     intro vs ls H361 E361 st hE
     refine res_ex (by kernel_rfl) (end_flat st.inn hE (.inr rfl) (a := .tuple [.agg [.flt .f32 (fop .quo .f32 (cenT ms (i311 + 1)).a (cenT ms (i311 + 1)).w), .flt .f32 (fop .quo .f32 (cenT ms (i311 + 1)).b (cenT ms (i311 + 1)).w), .flt .f32 (fop .quo .f32 (cenT ms (i311 + 1)).c (cenT ms (i311 + 1)).w)], .int .i64 0]) (by kernel_rfl) (grew_own g357 (st.inn.kept) ⟨op27, ⟨op14, trivial⟩⟩) rfl ⟨?_, rfl⟩)
     unfold centreF; rw [if_pos f9, if_neg (by omega), show ms.length = i311 + 1 by omega]
  ·
   refine run_mc (φ := φ0) (pm := pmR 4 [] 0) 20 (ws := [⟨p10, 0, [nF 0, n1 1], false⟩, ⟨p14, 0, [.lit (.flt .f32 (some 0)), .lit (.flt .f32 (some 0)), .lit (.flt .f32 (some 0))], false⟩, ⟨p27, 0, [.lit (.flt .f32 (some 0)), .lit (.flt .f32 (some 0)), .lit (.flt .f32 (some 0))], false⟩, ⟨p31, 0, [n2 4, n2 5, n2 6, nF 7, nF 8, nF 9, nF 10, nI 11, nI 12], false⟩]) (env := [(25, .ptr 3 3), (27, .ptr 3 6), (30, .ptr 3 6), (5, .ptr 2 0), (1, .ptr 0 0), (2, .ptr 1 0), (4, .ptr 3 0)]) q25 (.cons (wR r49 q25) (.cons (wR r50 q25) (.cons (wR r29 q25) (.cons (wR r33 q25) .nil)))) (sepOk_ro rfl) .nil (eC q25 (.cons b42 (.cons b43 (.cons b44 (.cons e28 (.cons b45 (.cons b46 (.cons e32 .nil)))))))) tb_ok ap_ok ?_
   refine all1 (by kernel_rfl) ?_
   intro vs ls H363 E363 st hE
   have b364 := eo st hE 27 (.ptr p31 6)
   have b365 := eo st hE 25 (.ptr p31 3)
   have b366 := eo st hE 30 (.ptr p31 6)
   have b367 := eo st hE 5 (.ptr p27 0)
   have b368 := eo st hE 1 (.ptr p10 0)
   have b369 := eo st hE 2 (.ptr p14 0)
   have g370 : Grew H26 H363 := (gk st)
   have g371 : Grew H H363 := Grew.trans g48 g370
   have r372 := g370.at r49
   have r373 := g370.at r50
   have r374 := g370.at r29
   have r375 := g370.at r33
   clear st hE vs ls
   refine res_kids2 (by kernel_rfl) ?_ ?_
   ·
    refine run_mc (φ := φ0) (pm := pmR 4 [] 0) 20 (ws := [⟨p10, 0, [nF 0, n1 1], false⟩, ⟨p14, 0, [.lit (.flt .f32 (some 0)), .lit (.flt .f32 (some 0)), .lit (.flt .f32 (some 0))], false⟩, ⟨p27, 0, [.lit (.flt .f32 (some 0)), .lit (.flt .f32 (some 0)), .lit (.flt .f32 (some 0))], false⟩, ⟨p31, 0, [n2 4, n2 5, n2 6, nF 7, nF 8, nF 9, nF 10, nI 11, nI 12], false⟩]) (env := [(27, .ptr 3 6), (25, .ptr 3 3), (30, .ptr 3 6), (5, .ptr 2 0), (1, .ptr 0 0), (2, .ptr 1 0)]) q25 (.cons (wR r372 q25) (.cons (wR r373 q25) (.cons (wR r374 q25) (.cons (wR r375 q25) .nil)))) (sepOk_ro rfl) .nil (eC q25 (.cons b364 (.cons b365 (.cons b366 (.cons b367 (.cons b368 (.cons b369 .nil))))))) tb_ok ap_ok ?_
    refine all1 (by kernel_rfl) ?_
    intro vs ls H377 E377 st hE
    have b378 := eo st hE 25 (.ptr p31 3)
    have b379 := eo st hE 28 (.flt .f32 v22_6)
    have b380 := eo st hE 30 (.ptr p31 6)
    have b381 := eo st hE 5 (.ptr p27 0)
    have b382 := eo st hE 1 (.ptr p10 0)
    have b383 := eo st hE 2 (.ptr p14 0)
    have g384 : Grew H363 H377 := (gk st)
    have g385 : Grew H H377 := Grew.trans g371 g384
    have r386 := g384.at r372
    have r387 := g384.at r373
    have r388 := g384.at r374
    have r389 := g384.at r375
    clear st hE vs ls
    refine res_kids2 (by kernel_rfl) ?_ ?_
    ·
     refine run_mc (φ := φ0) (pm := pmR 4 [] 0) 20 (ws := [⟨p10, 0, [nF 0, n1 1], false⟩, ⟨p14, 0, [.lit (.flt .f32 (some 0)), .lit (.flt .f32 (some 0)), .lit (.flt .f32 (some 0))], false⟩, ⟨p27, 0, [.lit (.flt .f32 (some 0)), .lit (.flt .f32 (some 0)), .lit (.flt .f32 (some 0))], false⟩, ⟨p31, 0, [n2 4, n2 5, n2 6, nF 7, nF 8, nF 9, nF 10, nI 11, nI 12], false⟩]) (env := [(25, .ptr 3 3), (28, nF 10), (30, .ptr 3 6), (5, .ptr 2 0), (1, .ptr 0 0), (2, .ptr 1 0)]) q25 (.cons (wR r386 q25) (.cons (wR r387 q25) (.cons (wR r388 q25) (.cons (wR r389 q25) .nil)))) (sepOk_ro rfl) .nil (eC q25 (.cons b378 (.cons b379 (.cons b380 (.cons b381 (.cons b382 (.cons b383 .nil))))))) tb_ok ap_ok ?_
     refine all1 (by kernel_rfl) ?_
     intro vs ls H391 E391 st hE
     have b392 := eo st hE 26 (.agg [.flt .f32 v22_3, .flt .f32 v22_4, .flt .f32 v22_5])
     have b393 := eo st hE 28 (.flt .f32 v22_6)
     have b394 := eo st hE 30 (.ptr p31 6)
     have b395 := eo st hE 5 (.ptr p27 0)
     have b396 := eo st hE 1 (.ptr p10 0)
     have b397 := eo st hE 2 (.ptr p14 0)
     have g398 : Grew H377 H391 := (gk st)
     have g399 : Grew H H391 := Grew.trans g385 g398
     have r400 := g398.at r386
     have r401 := g398.at r387
     have r402 := g398.at r388
     have r403 := g398.at r389
     clear st hE vs ls
     refine res_kids2 (by kernel_rfl) ?_ ?_
     ·
      refine run_mc (φ := φ0) (pm := pmR 4 [] 0) 20 (ws := [⟨p10, 0, [nF 0, n1 1], false⟩, ⟨p14, 0, [.lit (.flt .f32 (some 0)), .lit (.flt .f32 (some 0)), .lit (.flt .f32 (some 0))], false⟩, ⟨p27, 0, [.lit (.flt .f32 (some 0)), .lit (.flt .f32 (some 0)), .lit (.flt .f32 (some 0))], false⟩, ⟨p31, 0, [n2 4, n2 5, n2 6, nF 7, nF 8, nF 9, nF 10, nI 11, nI 12], false⟩]) (env := [(26, .agg [nF 7, nF 8, nF 9]), (28, nF 10), (30, .ptr 3 6), (5, .ptr 2 0), (1, .ptr 0 0), (2, .ptr 1 0)]) q25 (.cons (wR r400 q25) (.cons (wR r401 q25) (.cons (wR r402 q25) (.cons (wR r403 q25) .nil)))) (sepOk_ro rfl) .nil (eC q25 (.cons b392 (.cons b393 (.cons b394 (.cons b395 (.cons b396 (.cons b397 .nil))))))) tb_ok ap_ok ?_
      refine all1 (by kernel_rfl) ?_
      intro vs ls H405 E405 st hE
      have b406 := eo st hE 30 (.ptr p31 6)
      have b407 := eo st hE 5 (.ptr p27 0)
      obtain ⟨w408, hw408⟩ : ∃ z, z = (fop .mul .f32 v22_3 v22_6) := ⟨_, rfl⟩
      obtain ⟨w409, hw409⟩ : ∃ z, z = (fop .mul .f32 v22_4 v22_6) := ⟨_, rfl⟩
      obtain ⟨w410, hw410⟩ : ∃ z, z = (fop .mul .f32 v22_5 v22_6) := ⟨_, rfl⟩
      have b411 : E405 29 = .agg [.flt .f32 w408, .flt .f32 w409, .flt .f32 w410] := by rw [hw408, hw409, hw410]; exact eo st hE 29 _
      have b412 := eo st hE 1 (.ptr p10 0)
      have b413 := eo st hE 2 (.ptr p14 0)
      have g414 : Grew H391 H405 := (gk st)
      have g415 : Grew H H405 := Grew.trans g399 g414
      have r416 := g414.at r400
      have r417 := g414.at r401
      have r418 := g414.at r402
      have r419 := g414.at r403
      clear st hE vs ls
      refine res_kids2 (by kernel_rfl) ?_ ?_
      ·
       have q420 := q25.app (.cons ⟨_, rfl, hw408 ▸ fop_ok⟩ (.cons ⟨_, rfl, hw409 ▸ fop_ok⟩ (.cons ⟨_, rfl, hw410 ▸ fop_ok⟩ (.cons rfl (.cons ⟨_, rfl⟩ .nil)))) : KdsL [KF, KF, KF, .one, KI] [.flt .f32 w408, .flt .f32 w409, .flt .f32 w410, (.slice l (1 * 9) (ms.length - 1) (cap - 1) 9), .int .i64 ((ms.length - 1 : Nat) : Int)])
       refine run_mc (φ := φ0) (pm := pmR 3 [(.slSl 9 (n1 1) (some (.lit (.int .i64 1))) none, n1 16), (.len (n1 16), nI 17)] 0) 20 (ws := [⟨p10, 0, [nF 0, n1 1], false⟩, ⟨p14, 0, [.lit (.flt .f32 (some 0)), .lit (.flt .f32 (some 0)), .lit (.flt .f32 (some 0))], false⟩, ⟨p31, 0, [n2 4, n2 5, n2 6, nF 7, nF 8, nF 9, nF 10, nI 11, nI 12], false⟩, ⟨p27, 0, [.lit (.flt .f32 (some 0)), .lit (.flt .f32 (some 0)), .lit (.flt .f32 (some 0))], true⟩]) (env := [(30, .ptr 2 6), (5, .ptr 3 0), (29, .agg [nF 13, nF 14, nF 15]), (1, .ptr 0 0), (2, .ptr 1 0)]) q420 (.cons (wR r416 q420) (.cons (wR r417 q420) (.cons (wR r419 q420) (.cons (wO r418 q420) .nil)))) (sepD (by repeat (first | exact .nil | refine .cons (by first | assumption | exact Apart.symm (by assumption)) ?_))) (.cons (rule_fromS (dE q420) eS (dE q420) (dE q420) (by omega) hcap) (.cons (rule_len (l := l) (o := 1 * 9) (n := ms.length - 1) (cap := cap - 1) (sz := 9) (dE q420) (dE q420)) .nil)) (eC q420 (.cons b406 (.cons b407 (.cons b411 (.cons b412 (.cons b413 .nil)))))) tb_ok ap_ok ?_
       refine all1 (by kernel_rfl) ?_
       have hc0 : cenT ms (0 + 1) = ⟨fop .mul .f32 v22_3 v22_6, fop .mul .f32 v22_4 v22_6, fop .mul .f32 v22_5 v22_6, v22_6⟩ := by
        show cenS (cenT ms 0) 0 _ = _
        rw [he22, cenS_0 _ rfl, show (cenT ms 0).w = some 0 from rfl, first_w hr f9 hn0 he22 (by assumption) (by assumption) (by assumption) (by assumption), mul_comm32 v22_6 v22_3, mul_comm32 v22_6 v22_4, mul_comm32 v22_6 v22_5]
       intro vs ls H421 E421 st hE
       have r422 : H421.get p27 = some (.row [.flt .f32 w408, .flt .f32 w409, .flt .f32 w410] true) := row_whole st.inn 3 (l := p27) (b := 0) rfl (by kernel_rfl)
       have b423 := eo st hE 36 (.int .i64 0)
       have b424 := eo st hE 35 (.int .i64 ((ms.length - 1 : Nat) : Int))
       have b425 := eo st hE 34 ((.slice l (1 * 9) (ms.length - 1) (cap - 1) 9))
       have b426 := eo st hE 5 (.ptr p27 0)
       have b427 := eo st hE 6 (.flt .f32 v22_6)
       have b428 := eo st hE 2 (.ptr p14 0)
       have g430 : Grew H H421 := grew_own g415 st.inn.kept ⟨op27, trivial⟩
       have r432 := kept_at st.inn.kept r417 ⟨by first | assumption | exact Apart.symm (by assumption), trivial⟩
       clear st hE vs ls
       refine res_loop (by kernel_rfl) (fun z E H' => ∃ (i : Nat), z + i = (ms.length - 1) ∧ E 35 = .int .i64 ((ms.length - 1 : Nat) : Int) ∧ E 34 = (.slice l (1 * 9) (ms.length - 1) (cap - 1) 9) ∧ E 5 = .ptr p27 0 ∧ E 2 = .ptr p14 0 ∧ E 36 = .int .i64 (i : Int) ∧ E 6 = .flt .f32 (cenT ms (i + 1)).w ∧ Grew H H' ∧ H'.get p14 = some (.row [.flt .f32 (some 0), .flt .f32 (some 0), .flt .f32 (some 0)] true) ∧ H'.get p27 = some (.row [.flt .f32 (cenT ms (i + 1)).a, .flt .f32 (cenT ms (i + 1)).b, .flt .f32 (cenT ms (i + 1)).c] true)) ((ms.length - 1)) ⟨0, by omega, b424, b425, b426, b428, b423, (by rw [hc0]; exact b427), g430, r432, (by rw [hc0, ← hw408, ← hw409, ← hw410]; exact r422)⟩ ?_
       rintro z434 Ei434 Hi434 ⟨i434, hz434, c434_35, c434_34, c434_5, c434_2, ci434, cv434_6, gt434, r434_0, r434_1⟩
       have q435 := q420.app (.cons ⟨_, rfl⟩ (.cons ⟨_, rfl, (cenT_ok ms (i434 + 1)).2.2.2⟩ (.cons ⟨_, rfl, (cenT_ok ms (i434 + 1)).1⟩ (.cons ⟨_, rfl, (cenT_ok ms (i434 + 1)).2.1⟩ (.cons ⟨_, rfl, (cenT_ok ms (i434 + 1)).2.2.1⟩ .nil)))) : KdsL [KI, KF, KF, KF, KF] [.int .i64 (i434 : Int), .flt .f32 (cenT ms (i434 + 1)).w, .flt .f32 (cenT ms (i434 + 1)).a, .flt .f32 (cenT ms (i434 + 1)).b, .flt .f32 (cenT ms (i434 + 1)).c])
       refine run_mc (φ := φ0) (pm := pmR 1 [] 5) 20 (ws := [⟨p14, 0, [.lit (.flt .f32 (some 0)), .lit (.flt .f32 (some 0)), .lit (.flt .f32 (some 0))], false⟩, ⟨p27, 0, [nF 20, nF 21, nF 22], true⟩]) (env := [(35, nI 17), (34, n1 16), (5, .ptr 1 0), (2, .ptr 0 0), (36, nI 18), (6, nF 19)]) q435 (.cons (wR r434_0 q435) (.cons (wO r434_1 q435) .nil)) (sepD (by repeat (first | exact .nil | refine .cons (by first | assumption | exact Apart.symm (by assumption)) ?_))) .nil (eC q435 (.cons c434_35 (.cons c434_34 (.cons c434_5 (.cons c434_2 (.cons ci434 (.cons cv434_6 .nil))))))) tb_ok ap_ok ?_
       refine all2 (by kernel_rfl) ?_ ?_
       ·
        intro vs ls H436 E436 st hE
        have f437 : (i434 : Int) < ((ms.length - 1 : Nat) : Int) := dt st 0
        have b438 := eo st hE 34 ((.slice l (1 * 9) (ms.length - 1) (cap - 1) 9))
        have b439 := eo st hE 36 (.int .i64 (i434 : Int))
        have b440 := eo st hE 5 (.ptr p27 0)
        have b441 := eo st hE 6 (.flt .f32 (cenT ms (i434 + 1)).w)
        have b442 := eo st hE 35 (.int .i64 ((ms.length - 1 : Nat) : Int))
        have b443 := eo st hE 2 (.ptr p14 0)
        have g444 : Grew Hi434 H436 := (gk st)
        have g445 : Grew H H436 := Grew.trans gt434 g444
        have r446 := g444.at r434_0
        have r447 := g444.at r434_1
        clear st hE vs ls
        have hlt448 : (i434 + 1) < ms.length := by omega
        obtain ⟨lS448, cap448, rest448, wr448, eS448, gB448⟩ := hS.isSl hlt448
        have gS448 := g445.at gB448
        have ne449 := apn gB448 op14
        have ne450 := apn gB448 op27
        obtain ⟨v448_0, v448_1, v448_2, v448_3, v448_4, v448_5, v448_6, v448_7, v448_8, hm448, ho448_3, ho448_4, ho448_5, ho448_6⟩ := partsMark (hr.get hlt448)
        have he448 : ms.getD (i434 + 1) [] = [.int .i32 v448_0, .int .i32 v448_1, .int .i32 v448_2, .flt .f32 v448_3, .flt .f32 v448_4, .flt .f32 v448_5, .flt .f32 v448_6, .int .i64 v448_7, .int .i64 v448_8] := by rw [← hm448, List.getD_eq_getElem?_getD, List.getElem?_eq_getElem hlt448]; rfl
        have q451 := q435.app (.cons ⟨_, rfl⟩ (.cons ⟨_, rfl⟩ (.cons ⟨_, rfl⟩ (.cons ⟨_, rfl, ho448_3⟩ (.cons ⟨_, rfl, ho448_4⟩ (.cons ⟨_, rfl, ho448_5⟩ (.cons ⟨_, rfl, ho448_6⟩ (.cons ⟨_, rfl⟩ (.cons ⟨_, rfl⟩ .nil)))))))) : KdsL [K2, K2, K2, KF, KF, KF, KF, KI, KI] [.int .i32 v448_0, .int .i32 v448_1, .int .i32 v448_2, .flt .f32 v448_3, .flt .f32 v448_4, .flt .f32 v448_5, .flt .f32 v448_6, .int .i64 v448_7, .int .i64 v448_8])
        refine run_mc (φ := φ0) (pm := pmR 2 [(.ia 9 (n1 16) (nI 18), .ptr 1 0)] 5) 20 (ws := [⟨p14, 0, [.lit (.flt .f32 (some 0)), .lit (.flt .f32 (some 0)), .lit (.flt .f32 (some 0))], false⟩, ⟨lS448, ((i434 + 1) * 9), [n2 23, n2 24, n2 25, nF 26, nF 27, nF 28, nF 29, nI 30, nI 31], false⟩, ⟨p27, 0, [nF 20, nF 21, nF 22], true⟩]) (env := [(34, n1 16), (36, nI 18), (5, .ptr 2 0), (6, nF 19), (35, nI 17), (2, .ptr 0 0)]) q451 (.cons (wR r446 q451) (.cons (win_elem hr gS448 hlt448 rfl (by rw [hm448]; exact (dL q451))) (.cons (wO r447 q451) .nil))) (sepD (by repeat (first | exact .nil | refine .cons (by first | assumption | exact Apart.symm (by assumption)) ?_))) (.cons (rule_iaV (k := i434) (dE q451) eS eS448 (dE q451) hlt448 rfl) .nil) (eC q451 (.cons b438 (.cons b439 (.cons b440 (.cons b441 (.cons b442 (.cons b443 .nil))))))) tb_ok ap_ok ?_
        refine all1 (by kernel_rfl) ?_
        intro vs ls H452 E452 st hE
        obtain ⟨w453, hw453⟩ : ∃ z, z = (fop .add .f32 (cenT ms (i434 + 1)).a (fop .mul .f32 v448_3 v448_6)) := ⟨_, rfl⟩
        obtain ⟨w454, hw454⟩ : ∃ z, z = (fop .add .f32 (cenT ms (i434 + 1)).b (fop .mul .f32 v448_4 v448_6)) := ⟨_, rfl⟩
        obtain ⟨w455, hw455⟩ : ∃ z, z = (fop .add .f32 (cenT ms (i434 + 1)).c (fop .mul .f32 v448_5 v448_6)) := ⟨_, rfl⟩
        have r456 : H452.get p27 = some (.row [.flt .f32 (fop .add .f32 (cenT ms (i434 + 1)).a (fop .mul .f32 v448_3 v448_6)), .flt .f32 (fop .add .f32 (cenT ms (i434 + 1)).b (fop .mul .f32 v448_4 v448_6)), .flt .f32 (fop .add .f32 (cenT ms (i434 + 1)).c (fop .mul .f32 v448_5 v448_6))] true) := row_whole st.inn 2 (l := p27) (b := 0) rfl (by kernel_rfl)
        obtain ⟨w457, hw457⟩ : ∃ z, z = (IntKind.wrap .i64 ((i434 : Int) + 1)) := ⟨_, rfl⟩
        have b458 : E452 36 = .int .i64 w457 := by rw [hw457]; exact eo st hE 36 _
        have b459 := eo st hE 35 (.int .i64 ((ms.length - 1 : Nat) : Int))
        have b460 := eo st hE 34 ((.slice l (1 * 9) (ms.length - 1) (cap - 1) 9))
        have b461 := eo st hE 5 (.ptr p27 0)
        have b462 := eo st hE 2 (.ptr p14 0)
        obtain ⟨w463, hw463⟩ : ∃ z, z = (fop .add .f32 (cenT ms (i434 + 1)).w v448_6) := ⟨_, rfl⟩
        have b464 : E452 6 = .flt .f32 w463 := by rw [hw463]; exact eo st hE 6 _
        have g466 : Grew H H452 := grew_own g445 st.inn.kept ⟨op27, trivial⟩
        have r467 := kept_at st.inn.kept r446 ⟨by first | assumption | exact Apart.symm (by assumption), trivial⟩
        clear st hE vs ls
        have hz9 : z434 - 1 < z434 := by omega
        have hy9 : z434 - 1 + (i434 + 1) = (ms.length - 1) := by omega
        have hi9 : E452 36 = .int .i64 ((i434 + 1 : Nat) : Int) := by rw [b458, hw457, wrap64 (by omega)]
        have hn9 : cenT ms (i434 + 1 + 1) = ⟨w453, w454, w455, w463⟩ := by
         show cenS (cenT ms (i434 + 1)) (i434 + 1) _ = _
         rw [he448, cenS_1 _ (by omega), mul_comm32 v448_6 v448_3, mul_comm32 v448_6 v448_4, mul_comm32 v448_6 v448_5]
         simp only [hw408, hw409, hw410, hw453, hw454, hw455, hw463]
        exact res_norm (by kernel_rfl) ⟨z434 - 1, hz9, i434 + 1, hy9, b459, b460, b461, b462, hi9, (by rw [hn9]; exact b464), g466, r467, (by rw [hn9, hw453, hw454, hw455]; exact r456)⟩
       ·
        intro vs ls H469 E469 st hE
        have f470 : ¬ ((i434 : Int) < ((ms.length - 1 : Nat) : Int)) := df st 0
        have b471 := eo st hE 36 (.int .i64 (i434 : Int))
        have b472 := eo st hE 35 (.int .i64 ((ms.length - 1 : Nat) : Int))
        obtain ⟨w473, hw473⟩ : ∃ z, z = (decide ((i434 : Int) < ((ms.length - 1 : Nat) : Int))) := ⟨_, rfl⟩
        have b474 : E469 37 = .bool w473 := by rw [hw473]; exact eo st hE 37 _
        have b475 := eo st hE 34 ((.slice l (1 * 9) (ms.length - 1) (cap - 1) 9))
        have b476 := eo st hE 5 (.ptr p27 0)
        have b477 := eo st hE 6 (.flt .f32 (cenT ms (i434 + 1)).w)
        have b478 := eo st hE 2 (.ptr p14 0)
        have g479 : Grew Hi434 H469 := (gk st)
        have g480 : Grew H H469 := Grew.trans gt434 g479
        have r481 := g479.at r434_0
        have r482 := g479.at r434_1
        clear st hE vs ls
        refine res_exit (id := 1) (by kernel_rfl) ?_
        have q483 := q435.app (.cons ⟨_, rfl⟩ .nil : KdsL [.bool] [.bool w473])
        refine run_mc (φ := φ0) (pm := pmR 0 [] 5) 20 (ws := [⟨p27, 0, [nF 20, nF 21, nF 22], true⟩, ⟨p14, 0, [.lit (.flt .f32 (some 0)), .lit (.flt .f32 (some 0)), .lit (.flt .f32 (some 0))], true⟩]) (env := [(36, nI 18), (35, nI 17), (37, nB 23), (34, n1 16), (5, .ptr 0 0), (6, nF 19), (2, .ptr 1 0)]) q483 (.cons (wO r482 q483) (.cons (wO r481 q483) .nil)) (sepD (by repeat (first | exact .nil | refine .cons (by first | assumption | exact Apart.symm (by assumption)) ?_))) .nil (eC q483 (.cons b471 (.cons b472 (.cons b474 (.cons b475 (.cons b476 (.cons b477 (.cons b478 .nil)))))))) tb_ok ap_ok ?_
        refine all1 (by kernel_rfl) ?_
        intro vs ls H484 E484 st hE
        refine res_ex (by kernel_rfl) (end_flat st.inn hE (.inr rfl) (a := .tuple [.agg [.flt .f32 (fop .quo .f32 (cenT ms (i434 + 1)).a (cenT ms (i434 + 1)).w), .flt .f32 (fop .quo .f32 (cenT ms (i434 + 1)).b (cenT ms (i434 + 1)).w), .flt .f32 (fop .quo .f32 (cenT ms (i434 + 1)).c (cenT ms (i434 + 1)).w)], .int .i64 0]) (by kernel_rfl) (grew_own g480 (st.inn.kept) ⟨op27, ⟨op14, trivial⟩⟩) rfl ⟨?_, rfl⟩)
        unfold centreF; rw [if_pos f9, if_neg (by omega), show ms.length = i434 + 1 by omega]
      ·
       have q485 := q25.app (.cons ⟨_, rfl, hw408 ▸ fop_ok⟩ (.cons ⟨_, rfl, hw409 ▸ fop_ok⟩ (.cons ⟨_, rfl, hw410 ▸ fop_ok⟩ (.cons rfl (.cons ⟨_, rfl⟩ .nil)))) : KdsL [KF, KF, KF, .one, KI] [.flt .f32 w408, .flt .f32 w409, .flt .f32 w410, (.slice l (1 * 9) (ms.length - 1) (cap - 1) 9), .int .i64 ((ms.length - 1 : Nat) : Int)])
       refine run_mc (φ := φ0) (pm := pmR 3 [(.slSl 9 (n1 1) (some (.lit (.int .i64 1))) none, n1 16), (.len (n1 16), nI 17)] 0) 20 (ws := [⟨p10, 0, [nF 0, n1 1], false⟩, ⟨p14, 0, [.lit (.flt .f32 (some 0)), .lit (.flt .f32 (some 0)), .lit (.flt .f32 (some 0))], false⟩, ⟨p31, 0, [n2 4, n2 5, n2 6, nF 7, nF 8, nF 9, nF 10, nI 11, nI 12], false⟩, ⟨p27, 0, [.lit (.flt .f32 (some 0)), .lit (.flt .f32 (some 0)), .lit (.flt .f32 (some 0))], true⟩]) (env := [(30, .ptr 2 6), (5, .ptr 3 0), (29, .agg [nF 13, nF 14, nF 15]), (1, .ptr 0 0), (2, .ptr 1 0)]) q485 (.cons (wR r416 q485) (.cons (wR r417 q485) (.cons (wR r419 q485) (.cons (wO r418 q485) .nil)))) (sepD (by repeat (first | exact .nil | refine .cons (by first | assumption | exact Apart.symm (by assumption)) ?_))) (.cons (rule_fromS (dE q485) eS (dE q485) (dE q485) (by omega) hcap) (.cons (rule_len (l := l) (o := 1 * 9) (n := ms.length - 1) (cap := cap - 1) (sz := 9) (dE q485) (dE q485)) .nil)) (eC q485 (.cons b406 (.cons b407 (.cons b411 (.cons b412 (.cons b413 .nil)))))) tb_ok ap_ok ?_
       refine all1 (by kernel_rfl) ?_
       have hc0 : cenT ms (0 + 1) = ⟨fop .mul .f32 v22_3 v22_6, fop .mul .f32 v22_4 v22_6, fop .mul .f32 v22_5 v22_6, v22_6⟩ := by
        show cenS (cenT ms 0) 0 _ = _
        rw [he22, cenS_0 _ rfl, show (cenT ms 0).w = some 0 from rfl, first_w hr f9 hn0 he22 (by assumption) (by assumption) (by assumption) (by assumption), mul_comm32 v22_6 v22_3, mul_comm32 v22_6 v22_4, mul_comm32 v22_6 v22_5]
       intro vs ls H486 E486 st hE
       have r487 : H486.get p27 = some (.row [.flt .f32 w408, .flt .f32 w409, .flt .f32 w410] true) := row_whole st.inn 3 (l := p27) (b := 0) rfl (by kernel_rfl)
       have b488 := eo st hE 36 (.int .i64 0)
       have b489 := eo st hE 35 (.int .i64 ((ms.length - 1 : Nat) : Int))
       have b490 := eo st hE 34 ((.slice l (1 * 9) (ms.length - 1) (cap - 1) 9))
       have b491 := eo st hE 5 (.ptr p27 0)
       have b492 := eo st hE 6 (.flt .f32 v22_6)
       have b493 := eo st hE 2 (.ptr p14 0)
       have g495 : Grew H H486 := grew_own g415 st.inn.kept ⟨op27, trivial⟩
       have r497 := kept_at st.inn.kept r417 ⟨by first | assumption | exact Apart.symm (by assumption), trivial⟩
       clear st hE vs ls
       refine res_loop (by kernel_rfl) (fun z E H' => ∃ (i : Nat), z + i = (ms.length - 1) ∧ E 35 = .int .i64 ((ms.length - 1 : Nat) : Int) ∧ E 34 = (.slice l (1 * 9) (ms.length - 1) (cap - 1) 9) ∧ E 5 = .ptr p27 0 ∧ E 2 = .ptr p14 0 ∧ E 36 = .int .i64 (i : Int) ∧ E 6 = .flt .f32 (cenT ms (i + 1)).w ∧ Grew H H' ∧ H'.get p14 = some (.row [.flt .f32 (some 0), .flt .f32 (some 0), .flt .f32 (some 0)] true) ∧ H'.get p27 = some (.row [.flt .f32 (cenT ms (i + 1)).a, .flt .f32 (cenT ms (i + 1)).b, .flt .f32 (cenT ms (i + 1)).c] true)) ((ms.length - 1)) ⟨0, by omega, b489, b490, b491, b493, b488, (by rw [hc0]; exact b492), g495, r497, (by rw [hc0, ← hw408, ← hw409, ← hw410]; exact r487)⟩ ?_
       rintro z499 Ei499 Hi499 ⟨i499, hz499, c499_35, c499_34, c499_5, c499_2, ci499, cv499_6, gt499, r499_0, r499_1⟩
       have q500 := q485.app (.cons ⟨_, rfl⟩ (.cons ⟨_, rfl, (cenT_ok ms (i499 + 1)).2.2.2⟩ (.cons ⟨_, rfl, (cenT_ok ms (i499 + 1)).1⟩ (.cons ⟨_, rfl, (cenT_ok ms (i499 + 1)).2.1⟩ (.cons ⟨_, rfl, (cenT_ok ms (i499 + 1)).2.2.1⟩ .nil)))) : KdsL [KI, KF, KF, KF, KF] [.int .i64 (i499 : Int), .flt .f32 (cenT ms (i499 + 1)).w, .flt .f32 (cenT ms (i499 + 1)).a, .flt .f32 (cenT ms (i499 + 1)).b, .flt .f32 (cenT ms (i499 + 1)).c])
       refine run_mc (φ := φ0) (pm := pmR 1 [] 5) 20 (ws := [⟨p14, 0, [.lit (.flt .f32 (some 0)), .lit (.flt .f32 (some 0)), .lit (.flt .f32 (some 0))], false⟩, ⟨p27, 0, [nF 20, nF 21, nF 22], true⟩]) (env := [(35, nI 17), (34, n1 16), (5, .ptr 1 0), (2, .ptr 0 0), (36, nI 18), (6, nF 19)]) q500 (.cons (wR r499_0 q500) (.cons (wO r499_1 q500) .nil)) (sepD (by repeat (first | exact .nil | refine .cons (by first | assumption | exact Apart.symm (by assumption)) ?_))) .nil (eC q500 (.cons c499_35 (.cons c499_34 (.cons c499_5 (.cons c499_2 (.cons ci499 (.cons cv499_6 .nil))))))) tb_ok ap_ok ?_
       refine all2 (by kernel_rfl) ?_ ?_
       ·
        intro vs ls H501 E501 st hE
        have f502 : (i499 : Int) < ((ms.length - 1 : Nat) : Int) := dt st 0
        have b503 := eo st hE 34 ((.slice l (1 * 9) (ms.length - 1) (cap - 1) 9))
        have b504 := eo st hE 36 (.int .i64 (i499 : Int))
        have b505 := eo st hE 5 (.ptr p27 0)
        have b506 := eo st hE 6 (.flt .f32 (cenT ms (i499 + 1)).w)
        have b507 := eo st hE 35 (.int .i64 ((ms.length - 1 : Nat) : Int))
        have b508 := eo st hE 2 (.ptr p14 0)
        have g509 : Grew Hi499 H501 := (gk st)
        have g510 : Grew H H501 := Grew.trans gt499 g509
        have r511 := g509.at r499_0
        have r512 := g509.at r499_1
        clear st hE vs ls
        have hlt513 : (i499 + 1) < ms.length := by omega
        obtain ⟨lS513, cap513, rest513, wr513, eS513, gB513⟩ := hS.isSl hlt513
        have gS513 := g510.at gB513
        have ne514 := apn gB513 op14
        have ne515 := apn gB513 op27
        obtain ⟨v513_0, v513_1, v513_2, v513_3, v513_4, v513_5, v513_6, v513_7, v513_8, hm513, ho513_3, ho513_4, ho513_5, ho513_6⟩ := partsMark (hr.get hlt513)
        have he513 : ms.getD (i499 + 1) [] = [.int .i32 v513_0, .int .i32 v513_1, .int .i32 v513_2, .flt .f32 v513_3, .flt .f32 v513_4, .flt .f32 v513_5, .flt .f32 v513_6, .int .i64 v513_7, .int .i64 v513_8] := by rw [← hm513, List.getD_eq_getElem?_getD, List.getElem?_eq_getElem hlt513]; rfl
        have q516 := q500.app (.cons ⟨_, rfl⟩ (.cons ⟨_, rfl⟩ (.cons ⟨_, rfl⟩ (.cons ⟨_, rfl, ho513_3⟩ (.cons ⟨_, rfl, ho513_4⟩ (.cons ⟨_, rfl, ho513_5⟩ (.cons ⟨_, rfl, ho513_6⟩ (.cons ⟨_, rfl⟩ (.cons ⟨_, rfl⟩ .nil)))))))) : KdsL [K2, K2, K2, KF, KF, KF, KF, KI, KI] [.int .i32 v513_0, .int .i32 v513_1, .int .i32 v513_2, .flt .f32 v513_3, .flt .f32 v513_4, .flt .f32 v513_5, .flt .f32 v513_6, .int .i64 v513_7, .int .i64 v513_8])
        refine run_mc (φ := φ0) (pm := pmR 2 [(.ia 9 (n1 16) (nI 18), .ptr 1 0)] 5) 20 (ws := [⟨p14, 0, [.lit (.flt .f32 (some 0)), .lit (.flt .f32 (some 0)), .lit (.flt .f32 (some 0))], false⟩, ⟨lS513, ((i499 + 1) * 9), [n2 23, n2 24, n2 25, nF 26, nF 27, nF 28, nF 29, nI 30, nI 31], false⟩, ⟨p27, 0, [nF 20, nF 21, nF 22], true⟩]) (env := [(34, n1 16), (36, nI 18), (5, .ptr 2 0), (6, nF 19), (35, nI 17), (2, .ptr 0 0)]) q516 (.cons (wR r511 q516) (.cons (win_elem hr gS513 hlt513 rfl (by rw [hm513]; exact (dL q516))) (.cons (wO r512 q516) .nil))) (sepD (by repeat (first | exact .nil | refine .cons (by first | assumption | exact Apart.symm (by assumption)) ?_))) (.cons (rule_iaV (k := i499) (dE q516) eS eS513 (dE q516) hlt513 rfl) .nil) (eC q516 (.cons b503 (.cons b504 (.cons b505 (.cons b506 (.cons b507 (.cons b508 .nil))))))) tb_ok ap_ok ?_
        refine all1 (by kernel_rfl) ?_
        intro vs ls H517 E517 st hE
        obtain ⟨w518, hw518⟩ : ∃ z, z = (fop .add .f32 (cenT ms (i499 + 1)).a (fop .mul .f32 v513_3 v513_6)) := ⟨_, rfl⟩
        obtain ⟨w519, hw519⟩ : ∃ z, z = (fop .add .f32 (cenT ms (i499 + 1)).b (fop .mul .f32 v513_4 v513_6)) := ⟨_, rfl⟩
        obtain ⟨w520, hw520⟩ : ∃ z, z = (fop .add .f32 (cenT ms (i499 + 1)).c (fop .mul .f32 v513_5 v513_6)) := ⟨_, rfl⟩
        have r521 : H517.get p27 = some (.row [.flt .f32 (fop .add .f32 (cenT ms (i499 + 1)).a (fop .mul .f32 v513_3 v513_6)), .flt .f32 (fop .add .f32 (cenT ms (i499 + 1)).b (fop .mul .f32 v513_4 v513_6)), .flt .f32 (fop .add .f32 (cenT ms (i499 + 1)).c (fop .mul .f32 v513_5 v513_6))] true) := row_whole st.inn 2 (l := p27) (b := 0) rfl (by kernel_rfl)
        obtain ⟨w522, hw522⟩ : ∃ z, z = (IntKind.wrap .i64 ((i499 : Int) + 1)) := ⟨_, rfl⟩
        have b523 : E517 36 = .int .i64 w522 := by rw [hw522]; exact eo st hE 36 _
        have b524 := eo st hE 35 (.int .i64 ((ms.length - 1 : Nat) : Int))
        have b525 := eo st hE 34 ((.slice l (1 * 9) (ms.length - 1) (cap - 1) 9))
        have b526 := eo st hE 5 (.ptr p27 0)
        have b527 := eo st hE 2 (.ptr p14 0)
        obtain ⟨w528, hw528⟩ : ∃ z, z = (fop .add .f32 (cenT ms (i499 + 1)).w v513_6) := ⟨_, rfl⟩
        have b529 : E517 6 = .flt .f32 w528 := by rw [hw528]; exact eo st hE 6 _
        have g531 : Grew H H517 := grew_own g510 st.inn.kept ⟨op27, trivial⟩
        have r532 := kept_at st.inn.kept r511 ⟨by first | assumption | exact Apart.symm (by assumption), trivial⟩
        clear st hE vs ls
        have hz9 : z499 - 1 < z499 := by omega
        have hy9 : z499 - 1 + (i499 + 1) = (ms.length - 1) := by omega
        have hi9 : E517 36 = .int .i64 ((i499 + 1 : Nat) : Int) := by rw [b523, hw522, wrap64 (by omega)]
        have hn9 : cenT ms (i499 + 1 + 1) = ⟨w518, w519, w520, w528⟩ := by
         show cenS (cenT ms (i499 + 1)) (i499 + 1) _ = _
         rw [he513, cenS_1 _ (by omega), mul_comm32 v513_6 v513_3, mul_comm32 v513_6 v513_4, mul_comm32 v513_6 v513_5]
         simp only [hw408, hw409, hw410, hw518, hw519, hw520, hw528]
        exact res_norm (by kernel_rfl) ⟨z499 - 1, hz9, i499 + 1, hy9, b524, b525, b526, b527, hi9, (by rw [hn9]; exact b529), g531, r532, (by rw [hn9, hw518, hw519, hw520]; exact r521)⟩
       ·
        intro vs ls H534 E534 st hE
        have f535 : ¬ ((i499 : Int) < ((ms.length - 1 : Nat) : Int)) := df st 0
        have b536 := eo st hE 36 (.int .i64 (i499 : Int))
        have b537 := eo st hE 35 (.int .i64 ((ms.length - 1 : Nat) : Int))
        obtain ⟨w538, hw538⟩ : ∃ z, z = (decide ((i499 : Int) < ((ms.length - 1 : Nat) : Int))) := ⟨_, rfl⟩
        have b539 : E534 37 = .bool w538 := by rw [hw538]; exact eo st hE 37 _
        have b540 := eo st hE 34 ((.slice l (1 * 9) (ms.length - 1) (cap - 1) 9))
        have b541 := eo st hE 5 (.ptr p27 0)
        have b542 := eo st hE 6 (.flt .f32 (cenT ms (i499 + 1)).w)
        have b543 := eo st hE 2 (.ptr p14 0)
        have g544 : Grew Hi499 H534 := (gk st)
        have g545 : Grew H H534 := Grew.trans gt499 g544
        have r546 := g544.at r499_0
        have r547 := g544.at r499_1
        clear st hE vs ls
        refine res_exit (id := 1) (by kernel_rfl) ?_
        have q548 := q500.app (.cons ⟨_, rfl⟩ .nil : KdsL [.bool] [.bool w538])
        refine run_mc (φ := φ0) (pm := pmR 0 [] 5) 20 (ws := [⟨p27, 0, [nF 20, nF 21, nF 22], true⟩, ⟨p14, 0, [.lit (.flt .f32 (some 0)), .lit (.flt .f32 (some 0)), .lit (.flt .f32 (some 0))], true⟩]) (env := [(36, nI 18), (35, nI 17), (37, nB 23), (34, n1 16), (5, .ptr 0 0), (6, nF 19), (2, .ptr 1 0)]) q548 (.cons (wO r547 q548) (.cons (wO r546 q548) .nil)) (sepD (by repeat (first | exact .nil | refine .cons (by first | assumption | exact Apart.symm (by assumption)) ?_))) .nil (eC q548 (.cons b536 (.cons b537 (.cons b539 (.cons b540 (.cons b541 (.cons b542 (.cons b543 .nil)))))))) tb_ok ap_ok ?_
        refine all1 (by kernel_rfl) ?_
        intro vs ls H549 E549 st hE
        refine res_ex (by kernel_rfl) (end_flat st.inn hE (.inr rfl) (a := .tuple [.agg [.flt .f32 (fop .quo .f32 (cenT ms (i499 + 1)).a (cenT ms (i499 + 1)).w), .flt .f32 (fop .quo .f32 (cenT ms (i499 + 1)).b (cenT ms (i499 + 1)).w), .flt .f32 (fop .quo .f32 (cenT ms (i499 + 1)).c (cenT ms (i499 + 1)).w)], .int .i64 0]) (by kernel_rfl) (grew_own g545 (st.inn.kept) ⟨op27, ⟨op14, trivial⟩⟩) rfl ⟨?_, rfl⟩)
        unfold centreF; rw [if_pos f9, if_neg (by omega), show ms.length = i499 + 1 by omega]
     ·
      have q550 := q25.app (.cons rfl (.cons ⟨_, rfl⟩ .nil) : KdsL [.one, KI] [(.slice l (1 * 9) (ms.length - 1) (cap - 1) 9), .int .i64 ((ms.length - 1 : Nat) : Int)])
      refine run_mc (φ := φ0) (pm := pmR 3 [(.slSl 9 (n1 1) (some (.lit (.int .i64 1))) none, n1 13), (.len (n1 13), nI 14)] 0) 20 (ws := [⟨p10, 0, [nF 0, n1 1], false⟩, ⟨p14, 0, [.lit (.flt .f32 (some 0)), .lit (.flt .f32 (some 0)), .lit (.flt .f32 (some 0))], false⟩, ⟨p31, 0, [n2 4, n2 5, n2 6, nF 7, nF 8, nF 9, nF 10, nI 11, nI 12], false⟩, ⟨p27, 0, [.lit (.flt .f32 (some 0)), .lit (.flt .f32 (some 0)), .lit (.flt .f32 (some 0))], true⟩]) (env := [(26, .agg [nF 7, nF 8, nF 9]), (28, nF 10), (30, .ptr 2 6), (5, .ptr 3 0), (1, .ptr 0 0), (2, .ptr 1 0)]) q550 (.cons (wR r400 q550) (.cons (wR r401 q550) (.cons (wR r403 q550) (.cons (wO r402 q550) .nil)))) (sepD (by repeat (first | exact .nil | refine .cons (by first | assumption | exact Apart.symm (by assumption)) ?_))) (.cons (rule_fromS (dE q550) eS (dE q550) (dE q550) (by omega) hcap) (.cons (rule_len (l := l) (o := 1 * 9) (n := ms.length - 1) (cap := cap - 1) (sz := 9) (dE q550) (dE q550)) .nil)) (eC q550 (.cons b392 (.cons b393 (.cons b394 (.cons b395 (.cons b396 (.cons b397 .nil))))))) tb_ok ap_ok ?_
      refine all1 (by kernel_rfl) ?_
      have hc0 : cenT ms (0 + 1) = ⟨fop .mul .f32 v22_3 v22_6, fop .mul .f32 v22_4 v22_6, fop .mul .f32 v22_5 v22_6, v22_6⟩ := by
       show cenS (cenT ms 0) 0 _ = _
       rw [he22, cenS_0 _ rfl, show (cenT ms 0).w = some 0 from rfl, first_w hr f9 hn0 he22 (by assumption) (by assumption) (by assumption) (by assumption), mul_comm32 v22_6 v22_3, mul_comm32 v22_6 v22_4, mul_comm32 v22_6 v22_5]
      intro vs ls H551 E551 st hE
      obtain ⟨w552, hw552⟩ : ∃ z, z = (fop .mul .f32 v22_3 v22_6) := ⟨_, rfl⟩
      obtain ⟨w553, hw553⟩ : ∃ z, z = (fop .mul .f32 v22_4 v22_6) := ⟨_, rfl⟩
      obtain ⟨w554, hw554⟩ : ∃ z, z = (fop .mul .f32 v22_5 v22_6) := ⟨_, rfl⟩
      have r555 : H551.get p27 = some (.row [.flt .f32 (fop .mul .f32 v22_3 v22_6), .flt .f32 (fop .mul .f32 v22_4 v22_6), .flt .f32 (fop .mul .f32 v22_5 v22_6)] true) := row_whole st.inn 3 (l := p27) (b := 0) rfl (by kernel_rfl)
      have b556 := eo st hE 36 (.int .i64 0)
      have b557 := eo st hE 35 (.int .i64 ((ms.length - 1 : Nat) : Int))
      have b558 := eo st hE 34 ((.slice l (1 * 9) (ms.length - 1) (cap - 1) 9))
      have b559 := eo st hE 5 (.ptr p27 0)
      have b560 := eo st hE 6 (.flt .f32 v22_6)
      have b561 := eo st hE 2 (.ptr p14 0)
      have g563 : Grew H H551 := grew_own g399 st.inn.kept ⟨op27, trivial⟩
      have r565 := kept_at st.inn.kept r401 ⟨by first | assumption | exact Apart.symm (by assumption), trivial⟩
      clear st hE vs ls
      refine res_loop (by kernel_rfl) (fun z E H' => ∃ (i : Nat), z + i = (ms.length - 1) ∧ E 35 = .int .i64 ((ms.length - 1 : Nat) : Int) ∧ E 34 = (.slice l (1 * 9) (ms.length - 1) (cap - 1) 9) ∧ E 5 = .ptr p27 0 ∧ E 2 = .ptr p14 0 ∧ E 36 = .int .i64 (i : Int) ∧ E 6 = .flt .f32 (cenT ms (i + 1)).w ∧ Grew H H' ∧ H'.get p14 = some (.row [.flt .f32 (some 0), .flt .f32 (some 0), .flt .f32 (some 0)] true) ∧ H'.get p27 = some (.row [.flt .f32 (cenT ms (i + 1)).a, .flt .f32 (cenT ms (i + 1)).b, .flt .f32 (cenT ms (i + 1)).c] true)) ((ms.length - 1)) ⟨0, by omega, b557, b558, b559, b561, b556, (by rw [hc0]; exact b560), g563, r565, (by rw [hc0]; exact r555)⟩ ?_
      rintro z567 Ei567 Hi567 ⟨i567, hz567, c567_35, c567_34, c567_5, c567_2, ci567, cv567_6, gt567, r567_0, r567_1⟩
      have q568 := q550.app (.cons ⟨_, rfl, hw552 ▸ fop_ok⟩ (.cons ⟨_, rfl, hw553 ▸ fop_ok⟩ (.cons ⟨_, rfl, hw554 ▸ fop_ok⟩ (.cons ⟨_, rfl⟩ (.cons ⟨_, rfl, (cenT_ok ms (i567 + 1)).2.2.2⟩ (.cons ⟨_, rfl, (cenT_ok ms (i567 + 1)).1⟩ (.cons ⟨_, rfl, (cenT_ok ms (i567 + 1)).2.1⟩ (.cons ⟨_, rfl, (cenT_ok ms (i567 + 1)).2.2.1⟩ .nil))))))) : KdsL [KF, KF, KF, KI, KF, KF, KF, KF] [.flt .f32 w552, .flt .f32 w553, .flt .f32 w554, .int .i64 (i567 : Int), .flt .f32 (cenT ms (i567 + 1)).w, .flt .f32 (cenT ms (i567 + 1)).a, .flt .f32 (cenT ms (i567 + 1)).b, .flt .f32 (cenT ms (i567 + 1)).c])
      refine run_mc (φ := φ0) (pm := pmR 1 [] 5) 20 (ws := [⟨p14, 0, [.lit (.flt .f32 (some 0)), .lit (.flt .f32 (some 0)), .lit (.flt .f32 (some 0))], false⟩, ⟨p27, 0, [nF 20, nF 21, nF 22], true⟩]) (env := [(35, nI 14), (34, n1 13), (5, .ptr 1 0), (2, .ptr 0 0), (36, nI 18), (6, nF 19)]) q568 (.cons (wR r567_0 q568) (.cons (wO r567_1 q568) .nil)) (sepD (by repeat (first | exact .nil | refine .cons (by first | assumption | exact Apart.symm (by assumption)) ?_))) .nil (eC q568 (.cons c567_35 (.cons c567_34 (.cons c567_5 (.cons c567_2 (.cons ci567 (.cons cv567_6 .nil))))))) tb_ok ap_ok ?_
      refine all2 (by kernel_rfl) ?_ ?_
      ·
       intro vs ls H569 E569 st hE
       have f570 : (i567 : Int) < ((ms.length - 1 : Nat) : Int) := dt st 0
       have b571 := eo st hE 34 ((.slice l (1 * 9) (ms.length - 1) (cap - 1) 9))
       have b572 := eo st hE 36 (.int .i64 (i567 : Int))
       have b573 := eo st hE 5 (.ptr p27 0)
       have b574 := eo st hE 6 (.flt .f32 (cenT ms (i567 + 1)).w)
       have b575 := eo st hE 35 (.int .i64 ((ms.length - 1 : Nat) : Int))
       have b576 := eo st hE 2 (.ptr p14 0)
       have g577 : Grew Hi567 H569 := (gk st)
       have g578 : Grew H H569 := Grew.trans gt567 g577
       have r579 := g577.at r567_0
       have r580 := g577.at r567_1
       clear st hE vs ls
       have hlt581 : (i567 + 1) < ms.length := by omega
       obtain ⟨lS581, cap581, rest581, wr581, eS581, gB581⟩ := hS.isSl hlt581
       have gS581 := g578.at gB581
       have ne582 := apn gB581 op14
       have ne583 := apn gB581 op27
       obtain ⟨v581_0, v581_1, v581_2, v581_3, v581_4, v581_5, v581_6, v581_7, v581_8, hm581, ho581_3, ho581_4, ho581_5, ho581_6⟩ := partsMark (hr.get hlt581)
       have he581 : ms.getD (i567 + 1) [] = [.int .i32 v581_0, .int .i32 v581_1, .int .i32 v581_2, .flt .f32 v581_3, .flt .f32 v581_4, .flt .f32 v581_5, .flt .f32 v581_6, .int .i64 v581_7, .int .i64 v581_8] := by rw [← hm581, List.getD_eq_getElem?_getD, List.getElem?_eq_getElem hlt581]; rfl
       have q584 := q568.app (.cons ⟨_, rfl⟩ (.cons ⟨_, rfl⟩ (.cons ⟨_, rfl⟩ (.cons ⟨_, rfl, ho581_3⟩ (.cons ⟨_, rfl, ho581_4⟩ (.cons ⟨_, rfl, ho581_5⟩ (.cons ⟨_, rfl, ho581_6⟩ (.cons ⟨_, rfl⟩ (.cons ⟨_, rfl⟩ .nil)))))))) : KdsL [K2, K2, K2, KF, KF, KF, KF, KI, KI] [.int .i32 v581_0, .int .i32 v581_1, .int .i32 v581_2, .flt .f32 v581_3, .flt .f32 v581_4, .flt .f32 v581_5, .flt .f32 v581_6, .int .i64 v581_7, .int .i64 v581_8])
       refine run_mc (φ := φ0) (pm := pmR 2 [(.ia 9 (n1 13) (nI 18), .ptr 1 0)] 5) 20 (ws := [⟨p14, 0, [.lit (.flt .f32 (some 0)), .lit (.flt .f32 (some 0)), .lit (.flt .f32 (some 0))], false⟩, ⟨lS581, ((i567 + 1) * 9), [n2 23, n2 24, n2 25, nF 26, nF 27, nF 28, nF 29, nI 30, nI 31], false⟩, ⟨p27, 0, [nF 20, nF 21, nF 22], true⟩]) (env := [(34, n1 13), (36, nI 18), (5, .ptr 2 0), (6, nF 19), (35, nI 14), (2, .ptr 0 0)]) q584 (.cons (wR r579 q584) (.cons (win_elem hr gS581 hlt581 rfl (by rw [hm581]; exact (dL q584))) (.cons (wO r580 q584) .nil))) (sepD (by repeat (first | exact .nil | refine .cons (by first | assumption | exact Apart.symm (by assumption)) ?_))) (.cons (rule_iaV (k := i567) (dE q584) eS eS581 (dE q584) hlt581 rfl) .nil) (eC q584 (.cons b571 (.cons b572 (.cons b573 (.cons b574 (.cons b575 (.cons b576 .nil))))))) tb_ok ap_ok ?_
       refine all1 (by kernel_rfl) ?_
       intro vs ls H585 E585 st hE
       obtain ⟨w586, hw586⟩ : ∃ z, z = (fop .add .f32 (cenT ms (i567 + 1)).a (fop .mul .f32 v581_3 v581_6)) := ⟨_, rfl⟩
       obtain ⟨w587, hw587⟩ : ∃ z, z = (fop .add .f32 (cenT ms (i567 + 1)).b (fop .mul .f32 v581_4 v581_6)) := ⟨_, rfl⟩
       obtain ⟨w588, hw588⟩ : ∃ z, z = (fop .add .f32 (cenT ms (i567 + 1)).c (fop .mul .f32 v581_5 v581_6)) := ⟨_, rfl⟩
       have r589 : H585.get p27 = some (.row [.flt .f32 (fop .add .f32 (cenT ms (i567 + 1)).a (fop .mul .f32 v581_3 v581_6)), .flt .f32 (fop .add .f32 (cenT ms (i567 + 1)).b (fop .mul .f32 v581_4 v581_6)), .flt .f32 (fop .add .f32 (cenT ms (i567 + 1)).c (fop .mul .f32 v581_5 v581_6))] true) := row_whole st.inn 2 (l := p27) (b := 0) rfl (by kernel_rfl)
       obtain ⟨w590, hw590⟩ : ∃ z, z = (IntKind.wrap .i64 ((i567 : Int) + 1)) := ⟨_, rfl⟩
       have b591 : E585 36 = .int .i64 w590 := by rw [hw590]; exact eo st hE 36 _
       have b592 := eo st hE 35 (.int .i64 ((ms.length - 1 : Nat) : Int))
       have b593 := eo st hE 34 ((.slice l (1 * 9) (ms.length - 1) (cap - 1) 9))
       have b594 := eo st hE 5 (.ptr p27 0)
       have b595 := eo st hE 2 (.ptr p14 0)
       obtain ⟨w596, hw596⟩ : ∃ z, z = (fop .add .f32 (cenT ms (i567 + 1)).w v581_6) := ⟨_, rfl⟩
       have b597 : E585 6 = .flt .f32 w596 := by rw [hw596]; exact eo st hE 6 _
       have g599 : Grew H H585 := grew_own g578 st.inn.kept ⟨op27, trivial⟩
       have r600 := kept_at st.inn.kept r579 ⟨by first | assumption | exact Apart.symm (by assumption), trivial⟩
       clear st hE vs ls
       have hz9 : z567 - 1 < z567 := by omega
       have hy9 : z567 - 1 + (i567 + 1) = (ms.length - 1) := by omega
       have hi9 : E585 36 = .int .i64 ((i567 + 1 : Nat) : Int) := by rw [b591, hw590, wrap64 (by omega)]
       have hn9 : cenT ms (i567 + 1 + 1) = ⟨w586, w587, w588, w596⟩ := by
        show cenS (cenT ms (i567 + 1)) (i567 + 1) _ = _
        rw [he581, cenS_1 _ (by omega), mul_comm32 v581_6 v581_3, mul_comm32 v581_6 v581_4, mul_comm32 v581_6 v581_5]
        simp only [hw552, hw553, hw554, hw586, hw587, hw588, hw596]
       exact res_norm (by kernel_rfl) ⟨z567 - 1, hz9, i567 + 1, hy9, b592, b593, b594, b595, hi9, (by rw [hn9]; exact b597), g599, r600, (by rw [hn9, hw586, hw587, hw588]; exact r589)⟩
      ·
       intro vs ls H602 E602 st hE
       have f603 : ¬ ((i567 : Int) < ((ms.length - 1 : Nat) : Int)) := df st 0
       have b604 := eo st hE 36 (.int .i64 (i567 : Int))
       have b605 := eo st hE 35 (.int .i64 ((ms.length - 1 : Nat) : Int))
       obtain ⟨w606, hw606⟩ : ∃ z, z = (decide ((i567 : Int) < ((ms.length - 1 : Nat) : Int))) := ⟨_, rfl⟩
       have b607 : E602 37 = .bool w606 := by rw [hw606]; exact eo st hE 37 _
       have b608 := eo st hE 34 ((.slice l (1 * 9) (ms.length - 1) (cap - 1) 9))
       have b609 := eo st hE 5 (.ptr p27 0)
       have b610 := eo st hE 6 (.flt .f32 (cenT ms (i567 + 1)).w)
       have b611 := eo st hE 2 (.ptr p14 0)
       have g612 : Grew Hi567 H602 := (gk st)
       have g613 : Grew H H602 := Grew.trans gt567 g612
       have r614 := g612.at r567_0
       have r615 := g612.at r567_1
       clear st hE vs ls
       refine res_exit (id := 1) (by kernel_rfl) ?_
       have q616 := q568.app (.cons ⟨_, rfl⟩ .nil : KdsL [.bool] [.bool w606])
       refine run_mc (φ := φ0) (pm := pmR 0 [] 5) 20 (ws := [⟨p27, 0, [nF 20, nF 21, nF 22], true⟩, ⟨p14, 0, [.lit (.flt .f32 (some 0)), .lit (.flt .f32 (some 0)), .lit (.flt .f32 (some 0))], true⟩]) (env := [(36, nI 18), (35, nI 14), (37, nB 23), (34, n1 13), (5, .ptr 0 0), (6, nF 19), (2, .ptr 1 0)]) q616 (.cons (wO r615 q616) (.cons (wO r614 q616) .nil)) (sepD (by repeat (first | exact .nil | refine .cons (by first | assumption | exact Apart.symm (by assumption)) ?_))) .nil (eC q616 (.cons b604 (.cons b605 (.cons b607 (.cons b608 (.cons b609 (.cons b610 (.cons b611 .nil)))))))) tb_ok ap_ok ?_
       refine all1 (by kernel_rfl) ?_
       intro vs ls H617 E617 st hE
       refine res_ex (by kernel_rfl) (end_flat st.inn hE (.inr rfl) (a := .tuple [.agg [.flt .f32 (fop .quo .f32 (cenT ms (i567 + 1)).a (cenT ms (i567 + 1)).w), .flt .f32 (fop .quo .f32 (cenT ms (i567 + 1)).b (cenT ms (i567 + 1)).w), .flt .f32 (fop .quo .f32 (cenT ms (i567 + 1)).c (cenT ms (i567 + 1)).w)], .int .i64 0]) (by kernel_rfl) (grew_own g613 (st.inn.kept) ⟨op27, ⟨op14, trivial⟩⟩) rfl ⟨?_, rfl⟩)
       unfold centreF; rw [if_pos f9, if_neg (by omega), show ms.length = i567 + 1 by omega]
    ·
     have q618 := q25.app (.cons rfl (.cons ⟨_, rfl⟩ .nil) : KdsL [.one, KI] [(.slice l (1 * 9) (ms.length - 1) (cap - 1) 9), .int .i64 ((ms.length - 1 : Nat) : Int)])
     refine run_mc (φ := φ0) (pm := pmR 3 [(.slSl 9 (n1 1) (some (.lit (.int .i64 1))) none, n1 13), (.len (n1 13), nI 14)] 0) 20 (ws := [⟨p10, 0, [nF 0, n1 1], false⟩, ⟨p14, 0, [.lit (.flt .f32 (some 0)), .lit (.flt .f32 (some 0)), .lit (.flt .f32 (some 0))], false⟩, ⟨p31, 0, [n2 4, n2 5, n2 6, nF 7, nF 8, nF 9, nF 10, nI 11, nI 12], false⟩, ⟨p27, 0, [.lit (.flt .f32 (some 0)), .lit (.flt .f32 (some 0)), .lit (.flt .f32 (some 0))], true⟩]) (env := [(25, .ptr 2 3), (28, nF 10), (30, .ptr 2 6), (5, .ptr 3 0), (1, .ptr 0 0), (2, .ptr 1 0)]) q618 (.cons (wR r386 q618) (.cons (wR r387 q618) (.cons (wR r389 q618) (.cons (wO r388 q618) .nil)))) (sepD (by repeat (first | exact .nil | refine .cons (by first | assumption | exact Apart.symm (by assumption)) ?_))) (.cons (rule_fromS (dE q618) eS (dE q618) (dE q618) (by omega) hcap) (.cons (rule_len (l := l) (o := 1 * 9) (n := ms.length - 1) (cap := cap - 1) (sz := 9) (dE q618) (dE q618)) .nil)) (eC q618 (.cons b378 (.cons b379 (.cons b380 (.cons b381 (.cons b382 (.cons b383 .nil))))))) tb_ok ap_ok ?_
     refine all1 (by kernel_rfl) ?_
     have hc0 : cenT ms (0 + 1) = ⟨fop .mul .f32 v22_3 v22_6, fop .mul .f32 v22_4 v22_6, fop .mul .f32 v22_5 v22_6, v22_6⟩ := by
      show cenS (cenT ms 0) 0 _ = _
      rw [he22, cenS_0 _ rfl, show (cenT ms 0).w = some 0 from rfl, first_w hr f9 hn0 he22 (by assumption) (by assumption) (by assumption) (by assumption), mul_comm32 v22_6 v22_3, mul_comm32 v22_6 v22_4, mul_comm32 v22_6 v22_5]
     intro vs ls H619 E619 st hE
     obtain ⟨w620, hw620⟩ : ∃ z, z = (fop .mul .f32 v22_3 v22_6) := ⟨_, rfl⟩
     obtain ⟨w621, hw621⟩ : ∃ z, z = (fop .mul .f32 v22_4 v22_6) := ⟨_, rfl⟩
     obtain ⟨w622, hw622⟩ : ∃ z, z = (fop .mul .f32 v22_5 v22_6) := ⟨_, rfl⟩
     have r623 : H619.get p27 = some (.row [.flt .f32 (fop .mul .f32 v22_3 v22_6), .flt .f32 (fop .mul .f32 v22_4 v22_6), .flt .f32 (fop .mul .f32 v22_5 v22_6)] true) := row_whole st.inn 3 (l := p27) (b := 0) rfl (by kernel_rfl)
     have b624 := eo st hE 36 (.int .i64 0)
     have b625 := eo st hE 35 (.int .i64 ((ms.length - 1 : Nat) : Int))
     have b626 := eo st hE 34 ((.slice l (1 * 9) (ms.length - 1) (cap - 1) 9))
     have b627 := eo st hE 5 (.ptr p27 0)
     have b628 := eo st hE 6 (.flt .f32 v22_6)
     have b629 := eo st hE 2 (.ptr p14 0)
     have g631 : Grew H H619 := grew_own g385 st.inn.kept ⟨op27, trivial⟩
     have r633 := kept_at st.inn.kept r387 ⟨by first | assumption | exact Apart.symm (by assumption), trivial⟩
     clear st hE vs ls
     refine res_loop (by kernel_rfl) (fun z E H' => ∃ (i : Nat), z + i = (ms.length - 1) ∧ E 35 = .int .i64 ((ms.length - 1 : Nat) : Int) ∧ E 34 = (.slice l (1 * 9) (ms.length - 1) (cap - 1) 9) ∧ E 5 = .ptr p27 0 ∧ E 2 = .ptr p14 0 ∧ E 36 = .int .i64 (i : Int) ∧ E 6 = .flt .f32 (cenT ms (i + 1)).w ∧ Grew H H' ∧ H'.get p14 = some (.row [.flt .f32 (some 0), .flt .f32 (some 0), .flt .f32 (some 0)] true) ∧ H'.get p27 = some (.row [.flt .f32 (cenT ms (i + 1)).a, .flt .f32 (cenT ms (i + 1)).b, .flt .f32 (cenT ms (i + 1)).c] true)) ((ms.length - 1)) ⟨0, by omega, b625, b626, b627, b629, b624, (by rw [hc0]; exact b628), g631, r633, (by rw [hc0]; exact r623)⟩ ?_
     rintro z635 Ei635 Hi635 ⟨i635, hz635, c635_35, c635_34, c635_5, c635_2, ci635, cv635_6, gt635, r635_0, r635_1⟩
     have q636 := q618.app (.cons ⟨_, rfl, hw620 ▸ fop_ok⟩ (.cons ⟨_, rfl, hw621 ▸ fop_ok⟩ (.cons ⟨_, rfl, hw622 ▸ fop_ok⟩ (.cons ⟨_, rfl⟩ (.cons ⟨_, rfl, (cenT_ok ms (i635 + 1)).2.2.2⟩ (.cons ⟨_, rfl, (cenT_ok ms (i635 + 1)).1⟩ (.cons ⟨_, rfl, (cenT_ok ms (i635 + 1)).2.1⟩ (.cons ⟨_, rfl, (cenT_ok ms (i635 + 1)).2.2.1⟩ .nil))))))) : KdsL [KF, KF, KF, KI, KF, KF, KF, KF] [.flt .f32 w620, .flt .f32 w621, .flt .f32 w622, .int .i64 (i635 : Int), .flt .f32 (cenT ms (i635 + 1)).w, .flt .f32 (cenT ms (i635 + 1)).a, .flt .f32 (cenT ms (i635 + 1)).b, .flt .f32 (cenT ms (i635 + 1)).c])
     refine run_mc (φ := φ0) (pm := pmR 1 [] 5) 20 (ws := [⟨p14, 0, [.lit (.flt .f32 (some 0)), .lit (.flt .f32 (some 0)), .lit (.flt .f32 (some 0))], false⟩, ⟨p27, 0, [nF 20, nF 21, nF 22], true⟩]) (env := [(35, nI 14), (34, n1 13), (5, .ptr 1 0), (2, .ptr 0 0), (36, nI 18), (6, nF 19)]) q636 (.cons (wR r635_0 q636) (.cons (wO r635_1 q636) .nil)) (sepD (by repeat (first | exact .nil | refine .cons (by first | assumption | exact Apart.symm (by assumption)) ?_))) .nil (eC q636 (.cons c635_35 (.cons c635_34 (.cons c635_5 (.cons c635_2 (.cons ci635 (.cons cv635_6 .nil))))))) tb_ok ap_ok ?_
     refine all2 (by kernel_rfl) ?_ ?_
     ·
      intro vs ls H637 E637 st hE
      have f638 : (i635 : Int) < ((ms.length - 1 : Nat) : Int) := dt st 0
      have b639 := eo st hE 34 ((.slice l (1 * 9) (ms.length - 1) (cap - 1) 9))
      have b640 := eo st hE 36 (.int .i64 (i635 : Int))
      have b641 := eo st hE 5 (.ptr p27 0)
      have b642 := eo st hE 6 (.flt .f32 (cenT ms (i635 + 1)).w)
      have b643 := eo st hE 35 (.int .i64 ((ms.length - 1 : Nat) : Int))
      have b644 := eo st hE 2 (.ptr p14 0)
      have g645 : Grew Hi635 H637 := (gk st)
      have g646 : Grew H H637 := Grew.trans gt635 g645
      have r647 := g645.at r635_0
      have r648 := g645.at r635_1
      clear st hE vs ls
      have hlt649 : (i635 + 1) < ms.length := by omega
      obtain ⟨lS649, cap649, rest649, wr649, eS649, gB649⟩ := hS.isSl hlt649
      have gS649 := g646.at gB649
      have ne650 := apn gB649 op14
      have ne651 := apn gB649 op27
      obtain ⟨v649_0, v649_1, v649_2, v649_3, v649_4, v649_5, v649_6, v649_7, v649_8, hm649, ho649_3, ho649_4, ho649_5, ho649_6⟩ := partsMark (hr.get hlt649)
      have he649 : ms.getD (i635 + 1) [] = [.int .i32 v649_0, .int .i32 v649_1, .int .i32 v649_2, .flt .f32 v649_3, .flt .f32 v649_4, .flt .f32 v649_5, .flt .f32 v649_6, .int .i64 v649_7, .int .i64 v649_8] := by rw [← hm649, List.getD_eq_getElem?_getD, List.getElem?_eq_getElem hlt649]; rfl
      have q652 := q636.app (.cons ⟨_, rfl⟩ (.cons ⟨_, rfl⟩ (.cons ⟨_, rfl⟩ (.cons ⟨_, rfl, ho649_3⟩ (.cons ⟨_, rfl, ho649_4⟩ (.cons ⟨_, rfl, ho649_5⟩ (.cons ⟨_, rfl, ho649_6⟩ (.cons ⟨_, rfl⟩ (.cons ⟨_, rfl⟩ .nil)))))))) : KdsL [K2, K2, K2, KF, KF, KF, KF, KI, KI] [.int .i32 v649_0, .int .i32 v649_1, .int .i32 v649_2, .flt .f32 v649_3, .flt .f32 v649_4, .flt .f32 v649_5, .flt .f32 v649_6, .int .i64 v649_7, .int .i64 v649_8])
      refine run_mc (φ := φ0) (pm := pmR 2 [(.ia 9 (n1 13) (nI 18), .ptr 1 0)] 5) 20 (ws := [⟨p14, 0, [.lit (.flt .f32 (some 0)), .lit (.flt .f32 (some 0)), .lit (.flt .f32 (some 0))], false⟩, ⟨lS649, ((i635 + 1) * 9), [n2 23, n2 24, n2 25, nF 26, nF 27, nF 28, nF 29, nI 30, nI 31], false⟩, ⟨p27, 0, [nF 20, nF 21, nF 22], true⟩]) (env := [(34, n1 13), (36, nI 18), (5, .ptr 2 0), (6, nF 19), (35, nI 14), (2, .ptr 0 0)]) q652 (.cons (wR r647 q652) (.cons (win_elem hr gS649 hlt649 rfl (by rw [hm649]; exact (dL q652))) (.cons (wO r648 q652) .nil))) (sepD (by repeat (first | exact .nil | refine .cons (by first | assumption | exact Apart.symm (by assumption)) ?_))) (.cons (rule_iaV (k := i635) (dE q652) eS eS649 (dE q652) hlt649 rfl) .nil) (eC q652 (.cons b639 (.cons b640 (.cons b641 (.cons b642 (.cons b643 (.cons b644 .nil))))))) tb_ok ap_ok ?_
      refine all1 (by kernel_rfl) ?_
      intro vs ls H653 E653 st hE
      obtain ⟨w654, hw654⟩ : ∃ z, z = (fop .add .f32 (cenT ms (i635 + 1)).a (fop .mul .f32 v649_3 v649_6)) := ⟨_, rfl⟩
      obtain ⟨w655, hw655⟩ : ∃ z, z = (fop .add .f32 (cenT ms (i635 + 1)).b (fop .mul .f32 v649_4 v649_6)) := ⟨_, rfl⟩
      obtain ⟨w656, hw656⟩ : ∃ z, z = (fop .add .f32 (cenT ms (i635 + 1)).c (fop .mul .f32 v649_5 v649_6)) := ⟨_, rfl⟩
      have r657 : H653.get p27 = some (.row [.flt .f32 (fop .add .f32 (cenT ms (i635 + 1)).a (fop .mul .f32 v649_3 v649_6)), .flt .f32 (fop .add .f32 (cenT ms (i635 + 1)).b (fop .mul .f32 v649_4 v649_6)), .flt .f32 (fop .add .f32 (cenT ms (i635 + 1)).c (fop .mul .f32 v649_5 v649_6))] true) := row_whole st.inn 2 (l := p27) (b := 0) rfl (by kernel_rfl)
      obtain ⟨w658, hw658⟩ : ∃ z, z = (IntKind.wrap .i64 ((i635 : Int) + 1)) := ⟨_, rfl⟩
      have b659 : E653 36 = .int .i64 w658 := by rw [hw658]; exact eo st hE 36 _
      have b660 := eo st hE 35 (.int .i64 ((ms.length - 1 : Nat) : Int))
      have b661 := eo st hE 34 ((.slice l (1 * 9) (ms.length - 1) (cap - 1) 9))
      have b662 := eo st hE 5 (.ptr p27 0)
      have b663 := eo st hE 2 (.ptr p14 0)
      obtain ⟨w664, hw664⟩ : ∃ z, z = (fop .add .f32 (cenT ms (i635 + 1)).w v649_6) := ⟨_, rfl⟩
      have b665 : E653 6 = .flt .f32 w664 := by rw [hw664]; exact eo st hE 6 _
      have g667 : Grew H H653 := grew_own g646 st.inn.kept ⟨op27, trivial⟩
      have r668 := kept_at st.inn.kept r647 ⟨by first | assumption | exact Apart.symm (by assumption), trivial⟩
      clear st hE vs ls
      have hz9 : z635 - 1 < z635 := by omega
      have hy9 : z635 - 1 + (i635 + 1) = (ms.length - 1) := by omega
      have hi9 : E653 36 = .int .i64 ((i635 + 1 : Nat) : Int) := by rw [b659, hw658, wrap64 (by omega)]
      have hn9 : cenT ms (i635 + 1 + 1) = ⟨w654, w655, w656, w664⟩ := by
       show cenS (cenT ms (i635 + 1)) (i635 + 1) _ = _
       rw [he649, cenS_1 _ (by omega), mul_comm32 v649_6 v649_3, mul_comm32 v649_6 v649_4, mul_comm32 v649_6 v649_5]
       simp only [hw620, hw621, hw622, hw654, hw655, hw656, hw664]
      exact res_norm (by kernel_rfl) ⟨z635 - 1, hz9, i635 + 1, hy9, b660, b661, b662, b663, hi9, (by rw [hn9]; exact b665), g667, r668, (by rw [hn9, hw654, hw655, hw656]; exact r657)⟩
     ·
      intro vs ls H670 E670 st hE
      have f671 : ¬ ((i635 : Int) < ((ms.length - 1 : Nat) : Int)) := df st 0
      have b672 := eo st hE 36 (.int .i64 (i635 : Int))
      have b673 := eo st hE 35 (.int .i64 ((ms.length - 1 : Nat) : Int))
      obtain ⟨w674, hw674⟩ : ∃ z, z = (decide ((i635 : Int) < ((ms.length - 1 : Nat) : Int))) := ⟨_, rfl⟩
      have b675 : E670 37 = .bool w674 := by rw [hw674]; exact eo st hE 37 _
      have b676 := eo st hE 34 ((.slice l (1 * 9) (ms.length - 1) (cap - 1) 9))
      have b677 := eo st hE 5 (.ptr p27 0)
      have b678 := eo st hE 6 (.flt .f32 (cenT ms (i635 + 1)).w)
      have b679 := eo st hE 2 (.ptr p14 0)
      have g680 : Grew Hi635 H670 := (gk st)
      have g681 : Grew H H670 := Grew.trans gt635 g680
      have r682 := g680.at r635_0
      have r683 := g680.at r635_1
      clear st hE vs ls
      refine res_exit (id := 1) (by kernel_rfl) ?_
      have q684 := q636.app (.cons ⟨_, rfl⟩ .nil : KdsL [.bool] [.bool w674])
      refine run_mc (φ := φ0) (pm := pmR 0 [] 5) 20 (ws := [⟨p27, 0, [nF 20, nF 21, nF 22], true⟩, ⟨p14, 0, [.lit (.flt .f32 (some 0)), .lit (.flt .f32 (some 0)), .lit (.flt .f32 (some 0))], true⟩]) (env := [(36, nI 18), (35, nI 14), (37, nB 23), (34, n1 13), (5, .ptr 0 0), (6, nF 19), (2, .ptr 1 0)]) q684 (.cons (wO r683 q684) (.cons (wO r682 q684) .nil)) (sepD (by repeat (first | exact .nil | refine .cons (by first | assumption | exact Apart.symm (by assumption)) ?_))) .nil (eC q684 (.cons b672 (.cons b673 (.cons b675 (.cons b676 (.cons b677 (.cons b678 (.cons b679 .nil)))))))) tb_ok ap_ok ?_
      refine all1 (by kernel_rfl) ?_
      intro vs ls H685 E685 st hE
      refine res_ex (by kernel_rfl) (end_flat st.inn hE (.inr rfl) (a := .tuple [.agg [.flt .f32 (fop .quo .f32 (cenT ms (i635 + 1)).a (cenT ms (i635 + 1)).w), .flt .f32 (fop .quo .f32 (cenT ms (i635 + 1)).b (cenT ms (i635 + 1)).w), .flt .f32 (fop .quo .f32 (cenT ms (i635 + 1)).c (cenT ms (i635 + 1)).w)], .int .i64 0]) (by kernel_rfl) (grew_own g681 (st.inn.kept) ⟨op27, ⟨op14, trivial⟩⟩) rfl ⟨?_, rfl⟩)
      unfold centreF; rw [if_pos f9, if_neg (by omega), show ms.length = i635 + 1 by omega]
   ·
    refine run_mc (φ := φ0) (pm := pmR 4 [] 0) 20 (ws := [⟨p10, 0, [nF 0, n1 1], false⟩, ⟨p14, 0, [.lit (.flt .f32 (some 0)), .lit (.flt .f32 (some 0)), .lit (.flt .f32 (some 0))], false⟩, ⟨p27, 0, [.lit (.flt .f32 (some 0)), .lit (.flt .f32 (some 0)), .lit (.flt .f32 (some 0))], false⟩, ⟨p31, 0, [n2 4, n2 5, n2 6, nF 7, nF 8, nF 9, nF 10, nI 11, nI 12], false⟩]) (env := [(27, .ptr 3 6), (25, .ptr 3 3), (30, .ptr 3 6), (5, .ptr 2 0), (1, .ptr 0 0), (2, .ptr 1 0)]) q25 (.cons (wR r372 q25) (.cons (wR r373 q25) (.cons (wR r374 q25) (.cons (wR r375 q25) .nil)))) (sepOk_ro rfl) .nil (eC q25 (.cons b364 (.cons b365 (.cons b366 (.cons b367 (.cons b368 (.cons b369 .nil))))))) tb_ok ap_ok ?_
    refine all1 (by kernel_rfl) ?_
    intro vs ls H687 E687 st hE
    have b688 := eo st hE 25 (.ptr p31 3)
    have b689 := eo st hE 27 (.ptr p31 6)
    have b690 := eo st hE 5 (.ptr p27 0)
    have b691 := eo st hE 31 (.flt .f32 v22_6)
    have b692 := eo st hE 1 (.ptr p10 0)
    have b693 := eo st hE 2 (.ptr p14 0)
    have g694 : Grew H363 H687 := (gk st)
    have g695 : Grew H H687 := Grew.trans g371 g694
    have r696 := g694.at r372
    have r697 := g694.at r373
    have r698 := g694.at r374
    have r699 := g694.at r375
    clear st hE vs ls
    refine res_kids2 (by kernel_rfl) ?_ ?_
    ·
     have q700 := q25.app (.cons rfl (.cons ⟨_, rfl⟩ .nil) : KdsL [.one, KI] [(.slice l (1 * 9) (ms.length - 1) (cap - 1) 9), .int .i64 ((ms.length - 1 : Nat) : Int)])
     refine run_mc (φ := φ0) (pm := pmR 3 [(.slSl 9 (n1 1) (some (.lit (.int .i64 1))) none, n1 13), (.len (n1 13), nI 14)] 0) 20 (ws := [⟨p10, 0, [nF 0, n1 1], false⟩, ⟨p14, 0, [.lit (.flt .f32 (some 0)), .lit (.flt .f32 (some 0)), .lit (.flt .f32 (some 0))], false⟩, ⟨p31, 0, [n2 4, n2 5, n2 6, nF 7, nF 8, nF 9, nF 10, nI 11, nI 12], false⟩, ⟨p27, 0, [.lit (.flt .f32 (some 0)), .lit (.flt .f32 (some 0)), .lit (.flt .f32 (some 0))], true⟩]) (env := [(25, .ptr 2 3), (27, .ptr 2 6), (5, .ptr 3 0), (31, nF 10), (1, .ptr 0 0), (2, .ptr 1 0)]) q700 (.cons (wR r696 q700) (.cons (wR r697 q700) (.cons (wR r699 q700) (.cons (wO r698 q700) .nil)))) (sepD (by repeat (first | exact .nil | refine .cons (by first | assumption | exact Apart.symm (by assumption)) ?_))) (.cons (rule_fromS (dE q700) eS (dE q700) (dE q700) (by omega) hcap) (.cons (rule_len (l := l) (o := 1 * 9) (n := ms.length - 1) (cap := cap - 1) (sz := 9) (dE q700) (dE q700)) .nil)) (eC q700 (.cons b688 (.cons b689 (.cons b690 (.cons b691 (.cons b692 (.cons b693 .nil))))))) tb_ok ap_ok ?_
     refine all1 (by kernel_rfl) ?_
     have hc0 : cenT ms (0 + 1) = ⟨fop .mul .f32 v22_3 v22_6, fop .mul .f32 v22_4 v22_6, fop .mul .f32 v22_5 v22_6, v22_6⟩ := by
      show cenS (cenT ms 0) 0 _ = _
      rw [he22, cenS_0 _ rfl, show (cenT ms 0).w = some 0 from rfl, first_w hr f9 hn0 he22 (by assumption) (by assumption) (by assumption) (by assumption), mul_comm32 v22_6 v22_3, mul_comm32 v22_6 v22_4, mul_comm32 v22_6 v22_5]
     intro vs ls H701 E701 st hE
     obtain ⟨w702, hw702⟩ : ∃ z, z = (fop .mul .f32 v22_3 v22_6) := ⟨_, rfl⟩
     obtain ⟨w703, hw703⟩ : ∃ z, z = (fop .mul .f32 v22_4 v22_6) := ⟨_, rfl⟩
     obtain ⟨w704, hw704⟩ : ∃ z, z = (fop .mul .f32 v22_5 v22_6) := ⟨_, rfl⟩
     have r705 : H701.get p27 = some (.row [.flt .f32 (fop .mul .f32 v22_3 v22_6), .flt .f32 (fop .mul .f32 v22_4 v22_6), .flt .f32 (fop .mul .f32 v22_5 v22_6)] true) := row_whole st.inn 3 (l := p27) (b := 0) rfl (by kernel_rfl)
     have b706 := eo st hE 36 (.int .i64 0)
     have b707 := eo st hE 35 (.int .i64 ((ms.length - 1 : Nat) : Int))
     have b708 := eo st hE 34 ((.slice l (1 * 9) (ms.length - 1) (cap - 1) 9))
     have b709 := eo st hE 5 (.ptr p27 0)
     have b710 := eo st hE 6 (.flt .f32 v22_6)
     have b711 := eo st hE 2 (.ptr p14 0)
     have g713 : Grew H H701 := grew_own g695 st.inn.kept ⟨op27, trivial⟩
     have r715 := kept_at st.inn.kept r697 ⟨by first | assumption | exact Apart.symm (by assumption), trivial⟩
     clear st hE vs ls
     refine res_loop (by kernel_rfl) (fun z E H' => ∃ (i : Nat), z + i = (ms.length - 1) ∧ E 35 = .int .i64 ((ms.length - 1 : Nat) : Int) ∧ E 34 = (.slice l (1 * 9) (ms.length - 1) (cap - 1) 9) ∧ E 5 = .ptr p27 0 ∧ E 2 = .ptr p14 0 ∧ E 36 = .int .i64 (i : Int) ∧ E 6 = .flt .f32 (cenT ms (i + 1)).w ∧ Grew H H' ∧ H'.get p14 = some (.row [.flt .f32 (some 0), .flt .f32 (some 0), .flt .f32 (some 0)] true) ∧ H'.get p27 = some (.row [.flt .f32 (cenT ms (i + 1)).a, .flt .f32 (cenT ms (i + 1)).b, .flt .f32 (cenT ms (i + 1)).c] true)) ((ms.length - 1)) ⟨0, by omega, b707, b708, b709, b711, b706, (by rw [hc0]; exact b710), g713, r715, (by rw [hc0]; exact r705)⟩ ?_
     rintro z717 Ei717 Hi717 ⟨i717, hz717, c717_35, c717_34, c717_5, c717_2, ci717, cv717_6, gt717, r717_0, r717_1⟩
     have q718 := q700.app (.cons ⟨_, rfl, hw702 ▸ fop_ok⟩ (.cons ⟨_, rfl, hw703 ▸ fop_ok⟩ (.cons ⟨_, rfl, hw704 ▸ fop_ok⟩ (.cons ⟨_, rfl⟩ (.cons ⟨_, rfl, (cenT_ok ms (i717 + 1)).2.2.2⟩ (.cons ⟨_, rfl, (cenT_ok ms (i717 + 1)).1⟩ (.cons ⟨_, rfl, (cenT_ok ms (i717 + 1)).2.1⟩ (.cons ⟨_, rfl, (cenT_ok ms (i717 + 1)).2.2.1⟩ .nil))))))) : KdsL [KF, KF, KF, KI, KF, KF, KF, KF] [.flt .f32 w702, .flt .f32 w703, .flt .f32 w704, .int .i64 (i717 : Int), .flt .f32 (cenT ms (i717 + 1)).w, .flt .f32 (cenT ms (i717 + 1)).a, .flt .f32 (cenT ms (i717 + 1)).b, .flt .f32 (cenT ms (i717 + 1)).c])
     refine run_mc (φ := φ0) (pm := pmR 1 [] 5) 20 (ws := [⟨p14, 0, [.lit (.flt .f32 (some 0)), .lit (.flt .f32 (some 0)), .lit (.flt .f32 (some 0))], false⟩, ⟨p27, 0, [nF 20, nF 21, nF 22], true⟩]) (env := [(35, nI 14), (34, n1 13), (5, .ptr 1 0), (2, .ptr 0 0), (36, nI 18), (6, nF 19)]) q718 (.cons (wR r717_0 q718) (.cons (wO r717_1 q718) .nil)) (sepD (by repeat (first | exact .nil | refine .cons (by first | assumption | exact Apart.symm (by assumption)) ?_))) .nil (eC q718 (.cons c717_35 (.cons c717_34 (.cons c717_5 (.cons c717_2 (.cons ci717 (.cons cv717_6 .nil))))))) tb_ok ap_ok ?_
     refine all2 (by kernel_rfl) ?_ ?_
     ·
      intro vs ls H719 E719 st hE
      have f720 : (i717 : Int) < ((ms.length - 1 : Nat) : Int) := dt st 0
      have b721 := eo st hE 34 ((.slice l (1 * 9) (ms.length - 1) (cap - 1) 9))
      have b722 := eo st hE 36 (.int .i64 (i717 : Int))
      have b723 := eo st hE 5 (.ptr p27 0)
      have b724 := eo st hE 6 (.flt .f32 (cenT ms (i717 + 1)).w)
      have b725 := eo st hE 35 (.int .i64 ((ms.length - 1 : Nat) : Int))
      have b726 := eo st hE 2 (.ptr p14 0)
      have g727 : Grew Hi717 H719 := (gk st)
      have g728 : Grew H H719 := Grew.trans gt717 g727
      have r729 := g727.at r717_0
      have r730 := g727.at r717_1
      clear st hE vs ls
      have hlt731 : (i717 + 1) < ms.length := by omega
      obtain ⟨lS731, cap731, rest731, wr731, eS731, gB731⟩ := hS.isSl hlt731
      have gS731 := g728.at gB731
      have ne732 := apn gB731 op14
      have ne733 := apn gB731 op27
      obtain ⟨v731_0, v731_1, v731_2, v731_3, v731_4, v731_5, v731_6, v731_7, v731_8, hm731, ho731_3, ho731_4, ho731_5, ho731_6⟩ := partsMark (hr.get hlt731)
      have he731 : ms.getD (i717 + 1) [] = [.int .i32 v731_0, .int .i32 v731_1, .int .i32 v731_2, .flt .f32 v731_3, .flt .f32 v731_4, .flt .f32 v731_5, .flt .f32 v731_6, .int .i64 v731_7, .int .i64 v731_8] := by rw [← hm731, List.getD_eq_getElem?_getD, List.getElem?_eq_getElem hlt731]; rfl
      have q734 := q718.app (.cons ⟨_, rfl⟩ (.cons ⟨_, rfl⟩ (.cons ⟨_, rfl⟩ (.cons ⟨_, rfl, ho731_3⟩ (.cons ⟨_, rfl, ho731_4⟩ (.cons ⟨_, rfl, ho731_5⟩ (.cons ⟨_, rfl, ho731_6⟩ (.cons ⟨_, rfl⟩ (.cons ⟨_, rfl⟩ .nil)))))))) : KdsL [K2, K2, K2, KF, KF, KF, KF, KI, KI] [.int .i32 v731_0, .int .i32 v731_1, .int .i32 v731_2, .flt .f32 v731_3, .flt .f32 v731_4, .flt .f32 v731_5, .flt .f32 v731_6, .int .i64 v731_7, .int .i64 v731_8])
      refine run_mc (φ := φ0) (pm := pmR 2 [(.ia 9 (n1 13) (nI 18), .ptr 1 0)] 5) 20 (ws := [⟨p14, 0, [.lit (.flt .f32 (some 0)), .lit (.flt .f32 (some 0)), .lit (.flt .f32 (some 0))], false⟩, ⟨lS731, ((i717 + 1) * 9), [n2 23, n2 24, n2 25, nF 26, nF 27, nF 28, nF 29, nI 30, nI 31], false⟩, ⟨p27, 0, [nF 20, nF 21, nF 22], true⟩]) (env := [(34, n1 13), (36, nI 18), (5, .ptr 2 0), (6, nF 19), (35, nI 14), (2, .ptr 0 0)]) q734 (.cons (wR r729 q734) (.cons (win_elem hr gS731 hlt731 rfl (by rw [hm731]; exact (dL q734))) (.cons (wO r730 q734) .nil))) (sepD (by repeat (first | exact .nil | refine .cons (by first | assumption | exact Apart.symm (by assumption)) ?_))) (.cons (rule_iaV (k := i717) (dE q734) eS eS731 (dE q734) hlt731 rfl) .nil) (eC q734 (.cons b721 (.cons b722 (.cons b723 (.cons b724 (.cons b725 (.cons b726 .nil))))))) tb_ok ap_ok ?_
      refine all1 (by kernel_rfl) ?_
      intro vs ls H735 E735 st hE
      obtain ⟨w736, hw736⟩ : ∃ z, z = (fop .add .f32 (cenT ms (i717 + 1)).a (fop .mul .f32 v731_3 v731_6)) := ⟨_, rfl⟩
      obtain ⟨w737, hw737⟩ : ∃ z, z = (fop .add .f32 (cenT ms (i717 + 1)).b (fop .mul .f32 v731_4 v731_6)) := ⟨_, rfl⟩
      obtain ⟨w738, hw738⟩ : ∃ z, z = (fop .add .f32 (cenT ms (i717 + 1)).c (fop .mul .f32 v731_5 v731_6)) := ⟨_, rfl⟩
      have r739 : H735.get p27 = some (.row [.flt .f32 (fop .add .f32 (cenT ms (i717 + 1)).a (fop .mul .f32 v731_3 v731_6)), .flt .f32 (fop .add .f32 (cenT ms (i717 + 1)).b (fop .mul .f32 v731_4 v731_6)), .flt .f32 (fop .add .f32 (cenT ms (i717 + 1)).c (fop .mul .f32 v731_5 v731_6))] true) := row_whole st.inn 2 (l := p27) (b := 0) rfl (by kernel_rfl)
      obtain ⟨w740, hw740⟩ : ∃ z, z = (IntKind.wrap .i64 ((i717 : Int) + 1)) := ⟨_, rfl⟩
      have b741 : E735 36 = .int .i64 w740 := by rw [hw740]; exact eo st hE 36 _
      have b742 := eo st hE 35 (.int .i64 ((ms.length - 1 : Nat) : Int))
      have b743 := eo st hE 34 ((.slice l (1 * 9) (ms.length - 1) (cap - 1) 9))
      have b744 := eo st hE 5 (.ptr p27 0)
      have b745 := eo st hE 2 (.ptr p14 0)
      obtain ⟨w746, hw746⟩ : ∃ z, z = (fop .add .f32 (cenT ms (i717 + 1)).w v731_6) := ⟨_, rfl⟩
      have b747 : E735 6 = .flt .f32 w746 := by rw [hw746]; exact eo st hE 6 _
      have g749 : Grew H H735 := grew_own g728 st.inn.kept ⟨op27, trivial⟩
      have r750 := kept_at st.inn.kept r729 ⟨by first | assumption | exact Apart.symm (by assumption), trivial⟩
      clear st hE vs ls
      have hz9 : z717 - 1 < z717 := by omega
      have hy9 : z717 - 1 + (i717 + 1) = (ms.length - 1) := by omega
      have hi9 : E735 36 = .int .i64 ((i717 + 1 : Nat) : Int) := by rw [b741, hw740, wrap64 (by omega)]
      have hn9 : cenT ms (i717 + 1 + 1) = ⟨w736, w737, w738, w746⟩ := by
       show cenS (cenT ms (i717 + 1)) (i717 + 1) _ = _
       rw [he731, cenS_1 _ (by omega), mul_comm32 v731_6 v731_3, mul_comm32 v731_6 v731_4, mul_comm32 v731_6 v731_5]
       simp only [hw702, hw703, hw704, hw736, hw737, hw738, hw746]
      exact res_norm (by kernel_rfl) ⟨z717 - 1, hz9, i717 + 1, hy9, b742, b743, b744, b745, hi9, (by rw [hn9]; exact b747), g749, r750, (by rw [hn9, hw736, hw737, hw738]; exact r739)⟩
     ·
      intro vs ls H752 E752 st hE
      have f753 : ¬ ((i717 : Int) < ((ms.length - 1 : Nat) : Int)) := df st 0
      have b754 := eo st hE 36 (.int .i64 (i717 : Int))
      have b755 := eo st hE 35 (.int .i64 ((ms.length - 1 : Nat) : Int))
      obtain ⟨w756, hw756⟩ : ∃ z, z = (decide ((i717 : Int) < ((ms.length - 1 : Nat) : Int))) := ⟨_, rfl⟩
      have b757 : E752 37 = .bool w756 := by rw [hw756]; exact eo st hE 37 _
      have b758 := eo st hE 34 ((.slice l (1 * 9) (ms.length - 1) (cap - 1) 9))
      have b759 := eo st hE 5 (.ptr p27 0)
      have b760 := eo st hE 6 (.flt .f32 (cenT ms (i717 + 1)).w)
      have b761 := eo st hE 2 (.ptr p14 0)
      have g762 : Grew Hi717 H752 := (gk st)
      have g763 : Grew H H752 := Grew.trans gt717 g762
      have r764 := g762.at r717_0
      have r765 := g762.at r717_1
      clear st hE vs ls
      refine res_exit (id := 1) (by kernel_rfl) ?_
      have q766 := q718.app (.cons ⟨_, rfl⟩ .nil : KdsL [.bool] [.bool w756])
      refine run_mc (φ := φ0) (pm := pmR 0 [] 5) 20 (ws := [⟨p27, 0, [nF 20, nF 21, nF 22], true⟩, ⟨p14, 0, [.lit (.flt .f32 (some 0)), .lit (.flt .f32 (some 0)), .lit (.flt .f32 (some 0))], true⟩]) (env := [(36, nI 18), (35, nI 14), (37, nB 23), (34, n1 13), (5, .ptr 0 0), (6, nF 19), (2, .ptr 1 0)]) q766 (.cons (wO r765 q766) (.cons (wO r764 q766) .nil)) (sepD (by repeat (first | exact .nil | refine .cons (by first | assumption | exact Apart.symm (by assumption)) ?_))) .nil (eC q766 (.cons b754 (.cons b755 (.cons b757 (.cons b758 (.cons b759 (.cons b760 (.cons b761 .nil)))))))) tb_ok ap_ok ?_
      refine all1 (by kernel_rfl) ?_
      intro vs ls H767 E767 st hE
      refine res_ex (by kernel_rfl) (end_flat st.inn hE (.inr rfl) (a := .tuple [.agg [.flt .f32 (fop .quo .f32 (cenT ms (i717 + 1)).a (cenT ms (i717 + 1)).w), .flt .f32 (fop .quo .f32 (cenT ms (i717 + 1)).b (cenT ms (i717 + 1)).w), .flt .f32 (fop .quo .f32 (cenT ms (i717 + 1)).c (cenT ms (i717 + 1)).w)], .int .i64 0]) (by kernel_rfl) (grew_own g763 (st.inn.kept) ⟨op27, ⟨op14, trivial⟩⟩) rfl ⟨?_, rfl⟩)
      unfold centreF; rw [if_pos f9, if_neg (by omega), show ms.length = i717 + 1 by omega]
    ·
     have q768 := q25.app (.cons rfl (.cons ⟨_, rfl⟩ .nil) : KdsL [.one, KI] [(.slice l (1 * 9) (ms.length - 1) (cap - 1) 9), .int .i64 ((ms.length - 1 : Nat) : Int)])
     refine run_mc (φ := φ0) (pm := pmR 3 [(.slSl 9 (n1 1) (some (.lit (.int .i64 1))) none, n1 13), (.len (n1 13), nI 14)] 0) 20 (ws := [⟨p10, 0, [nF 0, n1 1], false⟩, ⟨p14, 0, [.lit (.flt .f32 (some 0)), .lit (.flt .f32 (some 0)), .lit (.flt .f32 (some 0))], false⟩, ⟨p31, 0, [n2 4, n2 5, n2 6, nF 7, nF 8, nF 9, nF 10, nI 11, nI 12], false⟩, ⟨p27, 0, [.lit (.flt .f32 (some 0)), .lit (.flt .f32 (some 0)), .lit (.flt .f32 (some 0))], true⟩]) (env := [(25, .ptr 2 3), (27, .ptr 2 6), (5, .ptr 3 0), (31, nF 10), (1, .ptr 0 0), (2, .ptr 1 0)]) q768 (.cons (wR r696 q768) (.cons (wR r697 q768) (.cons (wR r699 q768) (.cons (wO r698 q768) .nil)))) (sepD (by repeat (first | exact .nil | refine .cons (by first | assumption | exact Apart.symm (by assumption)) ?_))) (.cons (rule_fromS (dE q768) eS (dE q768) (dE q768) (by omega) hcap) (.cons (rule_len (l := l) (o := 1 * 9) (n := ms.length - 1) (cap := cap - 1) (sz := 9) (dE q768) (dE q768)) .nil)) (eC q768 (.cons b688 (.cons b689 (.cons b690 (.cons b691 (.cons b692 (.cons b693 .nil))))))) tb_ok ap_ok ?_
     refine all1 (by kernel_rfl) ?_
     have hc0 : cenT ms (0 + 1) = ⟨fop .mul .f32 v22_3 v22_6, fop .mul .f32 v22_4 v22_6, fop .mul .f32 v22_5 v22_6, v22_6⟩ := by
      show cenS (cenT ms 0) 0 _ = _
      rw [he22, cenS_0 _ rfl, show (cenT ms 0).w = some 0 from rfl, first_w hr f9 hn0 he22 (by assumption) (by assumption) (by assumption) (by assumption), mul_comm32 v22_6 v22_3, mul_comm32 v22_6 v22_4, mul_comm32 v22_6 v22_5]
     intro vs ls H769 E769 st hE
     obtain ⟨w770, hw770⟩ : ∃ z, z = (fop .mul .f32 v22_3 v22_6) := ⟨_, rfl⟩
     obtain ⟨w771, hw771⟩ : ∃ z, z = (fop .mul .f32 v22_4 v22_6) := ⟨_, rfl⟩
     obtain ⟨w772, hw772⟩ : ∃ z, z = (fop .mul .f32 v22_5 v22_6) := ⟨_, rfl⟩
     have r773 : H769.get p27 = some (.row [.flt .f32 (fop .mul .f32 v22_3 v22_6), .flt .f32 (fop .mul .f32 v22_4 v22_6), .flt .f32 (fop .mul .f32 v22_5 v22_6)] true) := row_whole st.inn 3 (l := p27) (b := 0) rfl (by kernel_rfl)
     have b774 := eo st hE 36 (.int .i64 0)
     have b775 := eo st hE 35 (.int .i64 ((ms.length - 1 : Nat) : Int))
     have b776 := eo st hE 34 ((.slice l (1 * 9) (ms.length - 1) (cap - 1) 9))
     have b777 := eo st hE 5 (.ptr p27 0)
     have b778 := eo st hE 6 (.flt .f32 v22_6)
     have b779 := eo st hE 2 (.ptr p14 0)
     have g781 : Grew H H769 := grew_own g695 st.inn.kept ⟨op27, trivial⟩
     have r783 := kept_at st.inn.kept r697 ⟨by first | assumption | exact Apart.symm (by assumption), trivial⟩
     clear st hE vs ls
     refine res_loop (by kernel_rfl) (fun z E H' => ∃ (i : Nat), z + i = (ms.length - 1) ∧ E 35 = .int .i64 ((ms.length - 1 : Nat) : Int) ∧ E 34 = (.slice l (1 * 9) (ms.length - 1) (cap - 1) 9) ∧ E 5 = .ptr p27 0 ∧ E 2 = .ptr p14 0 ∧ E 36 = .int .i64 (i : Int) ∧ E 6 = .flt .f32 (cenT ms (i + 1)).w ∧ Grew H H' ∧ H'.get p14 = some (.row [.flt .f32 (some 0), .flt .f32 (some 0), .flt .f32 (some 0)] true) ∧ H'.get p27 = some (.row [.flt .f32 (cenT ms (i + 1)).a, .flt .f32 (cenT ms (i + 1)).b, .flt .f32 (cenT ms (i + 1)).c] true)) ((ms.length - 1)) ⟨0, by omega, b775, b776, b777, b779, b774, (by rw [hc0]; exact b778), g781, r783, (by rw [hc0]; exact r773)⟩ ?_
     rintro z785 Ei785 Hi785 ⟨i785, hz785, c785_35, c785_34, c785_5, c785_2, ci785, cv785_6, gt785, r785_0, r785_1⟩
     have q786 := q768.app (.cons ⟨_, rfl, hw770 ▸ fop_ok⟩ (.cons ⟨_, rfl, hw771 ▸ fop_ok⟩ (.cons ⟨_, rfl, hw772 ▸ fop_ok⟩ (.cons ⟨_, rfl⟩ (.cons ⟨_, rfl, (cenT_ok ms (i785 + 1)).2.2.2⟩ (.cons ⟨_, rfl, (cenT_ok ms (i785 + 1)).1⟩ (.cons ⟨_, rfl, (cenT_ok ms (i785 + 1)).2.1⟩ (.cons ⟨_, rfl, (cenT_ok ms (i785 + 1)).2.2.1⟩ .nil))))))) : KdsL [KF, KF, KF, KI, KF, KF, KF, KF] [.flt .f32 w770, .flt .f32 w771, .flt .f32 w772, .int .i64 (i785 : Int), .flt .f32 (cenT ms (i785 + 1)).w, .flt .f32 (cenT ms (i785 + 1)).a, .flt .f32 (cenT ms (i785 + 1)).b, .flt .f32 (cenT ms (i785 + 1)).c])
     refine run_mc (φ := φ0) (pm := pmR 1 [] 5) 20 (ws := [⟨p14, 0, [.lit (.flt .f32 (some 0)), .lit (.flt .f32 (some 0)), .lit (.flt .f32 (some 0))], false⟩, ⟨p27, 0, [nF 20, nF 21, nF 22], true⟩]) (env := [(35, nI 14), (34, n1 13), (5, .ptr 1 0), (2, .ptr 0 0), (36, nI 18), (6, nF 19)]) q786 (.cons (wR r785_0 q786) (.cons (wO r785_1 q786) .nil)) (sepD (by repeat (first | exact .nil | refine .cons (by first | assumption | exact Apart.symm (by assumption)) ?_))) .nil (eC q786 (.cons c785_35 (.cons c785_34 (.cons c785_5 (.cons c785_2 (.cons ci785 (.cons cv785_6 .nil))))))) tb_ok ap_ok ?_
     refine all2 (by kernel_rfl) ?_ ?_
     ·
      intro vs ls H787 E787 st hE
      have f788 : (i785 : Int) < ((ms.length - 1 : Nat) : Int) := dt st 0
      have b789 := eo st hE 34 ((.slice l (1 * 9) (ms.length - 1) (cap - 1) 9))
      have b790 := eo st hE 36 (.int .i64 (i785 : Int))
      have b791 := eo st hE 5 (.ptr p27 0)
      have b792 := eo st hE 6 (.flt .f32 (cenT ms (i785 + 1)).w)
      have b793 := eo st hE 35 (.int .i64 ((ms.length - 1 : Nat) : Int))
      have b794 := eo st hE 2 (.ptr p14 0)
      have g795 : Grew Hi785 H787 := (gk st)
      have g796 : Grew H H787 := Grew.trans gt785 g795
      have r797 := g795.at r785_0
      have r798 := g795.at r785_1
      clear st hE vs ls
      have hlt799 : (i785 + 1) < ms.length := by omega
      obtain ⟨lS799, cap799, rest799, wr799, eS799, gB799⟩ := hS.isSl hlt799
      have gS799 := g796.at gB799
      have ne800 := apn gB799 op14
      have ne801 := apn gB799 op27
      obtain ⟨v799_0, v799_1, v799_2, v799_3, v799_4, v799_5, v799_6, v799_7, v799_8, hm799, ho799_3, ho799_4, ho799_5, ho799_6⟩ := partsMark (hr.get hlt799)
      have he799 : ms.getD (i785 + 1) [] = [.int .i32 v799_0, .int .i32 v799_1, .int .i32 v799_2, .flt .f32 v799_3, .flt .f32 v799_4, .flt .f32 v799_5, .flt .f32 v799_6, .int .i64 v799_7, .int .i64 v799_8] := by rw [← hm799, List.getD_eq_getElem?_getD, List.getElem?_eq_getElem hlt799]; rfl
      have q802 := q786.app (.cons ⟨_, rfl⟩ (.cons ⟨_, rfl⟩ (.cons ⟨_, rfl⟩ (.cons ⟨_, rfl, ho799_3⟩ (.cons ⟨_, rfl, ho799_4⟩ (.cons ⟨_, rfl, ho799_5⟩ (.cons ⟨_, rfl, ho799_6⟩ (.cons ⟨_, rfl⟩ (.cons ⟨_, rfl⟩ .nil)))))))) : KdsL [K2, K2, K2, KF, KF, KF, KF, KI, KI] [.int .i32 v799_0, .int .i32 v799_1, .int .i32 v799_2, .flt .f32 v799_3, .flt .f32 v799_4, .flt .f32 v799_5, .flt .f32 v799_6, .int .i64 v799_7, .int .i64 v799_8])
      refine run_mc (φ := φ0) (pm := pmR 2 [(.ia 9 (n1 13) (nI 18), .ptr 1 0)] 5) 20 (ws := [⟨p14, 0, [.lit (.flt .f32 (some 0)), .lit (.flt .f32 (some 0)), .lit (.flt .f32 (some 0))], false⟩, ⟨lS799, ((i785 + 1) * 9), [n2 23, n2 24, n2 25, nF 26, nF 27, nF 28, nF 29, nI 30, nI 31], false⟩, ⟨p27, 0, [nF 20, nF 21, nF 22], true⟩]) (env := [(34, n1 13), (36, nI 18), (5, .ptr 2 0), (6, nF 19), (35, nI 14), (2, .ptr 0 0)]) q802 (.cons (wR r797 q802) (.cons (win_elem hr gS799 hlt799 rfl (by rw [hm799]; exact (dL q802))) (.cons (wO r798 q802) .nil))) (sepD (by repeat (first | exact .nil | refine .cons (by first | assumption | exact Apart.symm (by assumption)) ?_))) (.cons (rule_iaV (k := i785) (dE q802) eS eS799 (dE q802) hlt799 rfl) .nil) (eC q802 (.cons b789 (.cons b790 (.cons b791 (.cons b792 (.cons b793 (.cons b794 .nil))))))) tb_ok ap_ok ?_
      refine all1 (by kernel_rfl) ?_
      intro vs ls H803 E803 st hE
      obtain ⟨w804, hw804⟩ : ∃ z, z = (fop .add .f32 (cenT ms (i785 + 1)).a (fop .mul .f32 v799_3 v799_6)) := ⟨_, rfl⟩
      obtain ⟨w805, hw805⟩ : ∃ z, z = (fop .add .f32 (cenT ms (i785 + 1)).b (fop .mul .f32 v799_4 v799_6)) := ⟨_, rfl⟩
      obtain ⟨w806, hw806⟩ : ∃ z, z = (fop .add .f32 (cenT ms (i785 + 1)).c (fop .mul .f32 v799_5 v799_6)) := ⟨_, rfl⟩
      have r807 : H803.get p27 = some (.row [.flt .f32 (fop .add .f32 (cenT ms (i785 + 1)).a (fop .mul .f32 v799_3 v799_6)), .flt .f32 (fop .add .f32 (cenT ms (i785 + 1)).b (fop .mul .f32 v799_4 v799_6)), .flt .f32 (fop .add .f32 (cenT ms (i785 + 1)).c (fop .mul .f32 v799_5 v799_6))] true) := row_whole st.inn 2 (l := p27) (b := 0) rfl (by kernel_rfl)
      obtain ⟨w808, hw808⟩ : ∃ z, z = (IntKind.wrap .i64 ((i785 : Int) + 1)) := ⟨_, rfl⟩
      have b809 : E803 36 = .int .i64 w808 := by rw [hw808]; exact eo st hE 36 _
      have b810 := eo st hE 35 (.int .i64 ((ms.length - 1 : Nat) : Int))
      have b811 := eo st hE 34 ((.slice l (1 * 9) (ms.length - 1) (cap - 1) 9))
      have b812 := eo st hE 5 (.ptr p27 0)
      have b813 := eo st hE 2 (.ptr p14 0)
      obtain ⟨w814, hw814⟩ : ∃ z, z = (fop .add .f32 (cenT ms (i785 + 1)).w v799_6) := ⟨_, rfl⟩
      have b815 : E803 6 = .flt .f32 w814 := by rw [hw814]; exact eo st hE 6 _
      have g817 : Grew H H803 := grew_own g796 st.inn.kept ⟨op27, trivial⟩
      have r818 := kept_at st.inn.kept r797 ⟨by first | assumption | exact Apart.symm (by assumption), trivial⟩
      clear st hE vs ls
      have hz9 : z785 - 1 < z785 := by omega
      have hy9 : z785 - 1 + (i785 + 1) = (ms.length - 1) := by omega
      have hi9 : E803 36 = .int .i64 ((i785 + 1 : Nat) : Int) := by rw [b809, hw808, wrap64 (by omega)]
      have hn9 : cenT ms (i785 + 1 + 1) = ⟨w804, w805, w806, w814⟩ := by
       show cenS (cenT ms (i785 + 1)) (i785 + 1) _ = _
       rw [he799, cenS_1 _ (by omega), mul_comm32 v799_6 v799_3, mul_comm32 v799_6 v799_4, mul_comm32 v799_6 v799_5]
       simp only [hw770, hw771, hw772, hw804, hw805, hw806, hw814]
      exact res_norm (by kernel_rfl) ⟨z785 - 1, hz9, i785 + 1, hy9, b810, b811, b812, b813, hi9, (by rw [hn9]; exact b815), g817, r818, (by rw [hn9, hw804, hw805, hw806]; exact r807)⟩
     ·
      intro vs ls H820 E820 st hE
      have f821 : ¬ ((i785 : Int) < ((ms.length - 1 : Nat) : Int)) := df st 0
      have b822 := eo st hE 36 (.int .i64 (i785 : Int))
      have b823 := eo st hE 35 (.int .i64 ((ms.length - 1 : Nat) : Int))
      obtain ⟨w824, hw824⟩ : ∃ z, z = (decide ((i785 : Int) < ((ms.length - 1 : Nat) : Int))) := ⟨_, rfl⟩
      have b825 : E820 37 = .bool w824 := by rw [hw824]; exact eo st hE 37 _
      have b826 := eo st hE 34 ((.slice l (1 * 9) (ms.length - 1) (cap - 1) 9))
      have b827 := eo st hE 5 (.ptr p27 0)
      have b828 := eo st hE 6 (.flt .f32 (cenT ms (i785 + 1)).w)
      have b829 := eo st hE 2 (.ptr p14 0)
      have g830 : Grew Hi785 H820 := (gk st)
      have g831 : Grew H H820 := Grew.trans gt785 g830
      have r832 := g830.at r785_0
      have r833 := g830.at r785_1
      clear st hE vs ls
      refine res_exit (id := 1) (by kernel_rfl) ?_
      have q834 := q786.app (.cons ⟨_, rfl⟩ .nil : KdsL [.bool] [.bool w824])
      refine run_mc (φ := φ0) (pm := pmR 0 [] 5) 20 (ws := [⟨p27, 0, [nF 20, nF 21, nF 22], true⟩, ⟨p14, 0, [.lit (.flt .f32 (some 0)), .lit (.flt .f32 (some 0)), .lit (.flt .f32 (some 0))], true⟩]) (env := [(36, nI 18), (35, nI 14), (37, nB 23), (34, n1 13), (5, .ptr 0 0), (6, nF 19), (2, .ptr 1 0)]) q834 (.cons (wO r833 q834) (.cons (wO r832 q834) .nil)) (sepD (by repeat (first | exact .nil | refine .cons (by first | assumption | exact Apart.symm (by assumption)) ?_))) .nil (eC q834 (.cons b822 (.cons b823 (.cons b825 (.cons b826 (.cons b827 (.cons b828 (.cons b829 .nil)))))))) tb_ok ap_ok ?_
      refine all1 (by kernel_rfl) ?_
      intro vs ls H835 E835 st hE
      refine res_ex (by kernel_rfl) (end_flat st.inn hE (.inr rfl) (a := .tuple [.agg [.flt .f32 (fop .quo .f32 (cenT ms (i785 + 1)).a (cenT ms (i785 + 1)).w), .flt .f32 (fop .quo .f32 (cenT ms (i785 + 1)).b (cenT ms (i785 + 1)).w), .flt .f32 (fop .quo .f32 (cenT ms (i785 + 1)).c (cenT ms (i785 + 1)).w)], .int .i64 0]) (by kernel_rfl) (grew_own g831 (st.inn.kept) ⟨op27, ⟨op14, trivial⟩⟩) rfl ⟨?_, rfl⟩)
      unfold centreF; rw [if_pos f9, if_neg (by omega), show ms.length = i785 + 1 by omega]
theorem k_impl_Centre0 (H : AHeap) (x : Option Nat) (hx : fOk .f32 x) (ms : List (List AV)) (hr : Recs KM ms) (S : AV) (hS : SlL H 9 ms S) (mxms : ms.length ≤ 1048576) (hn0 : ms.length = 0) : APure Try.prog 40 [.agg [.flt .f32 x, S]] H (.tuple [.agg (centreF x ms).1, .int .i64 (centreF x ms).2]) := by
 refine res_start h_impl_CentreOf (by simp) ?_
 have q1 : KdsL [KF, .one, .bool, KI] [.flt .f32 x, S, .bool (okMap x ms), .int .i64 (ms.length : Int)] := .cons ⟨_, rfl, hx⟩ (.cons (slOne hS) (.cons ⟨_, rfl⟩ (.cons ⟨_, rfl⟩ .nil)))
 refine run_mc (φ := φ0) (pm := pmR 0 [(.call 35 [.agg [nF 0, n1 1]], nB 2), (.len (n1 1), nI 3)] 0) 20 (ws := []) (env := [(0, .agg [nF 0, n1 1])]) q1 .nil (sepOk_ro rfl) (.cons (rule_call (args := [.agg [.flt .f32 x, S]]) (dL q1) (dE q1) (fun H9 hk => k_impl_ValidMap H9 x hx S ms hr (hS.grew (Grew.trans (Grew.refl _) (hk.grew (Nat.le_refl _)))) (mx40 mxms))) (.cons (⟨_, _, (dE q1), (dE q1), slLen hS⟩) .nil)) (eC q1 (.cons (t := 0) rfl .nil)) tb_ok ap_ok ?_
 refine all3 (by kernel_rfl) ?_ ?_ ?_
 ·
  intro vs ls H2 E2 st hE
  have f3 : (okMap x ms) = false := bf st 0
  refine res_ex (by kernel_rfl) (end_flat st.inn hE (.inr rfl) (a := .tuple [.agg [.flt .f32 (some 0), .flt .f32 (some 0), .flt .f32 (some 0)], .int .i64 1]) (by kernel_rfl) (Grew.trans (Grew.refl _) (gk st)) rfl ⟨?_, rfl⟩)
  unfold centreF; rw [if_neg (by rw [f3]; decide)]
 ·
  intro vs ls H4 E4 st hE
  have f5 : (ms.length : Int) = 0 := dt st 0
  have f6 : (okMap x ms) = true := bf st 1
  refine res_ex (by kernel_rfl) (end_flat st.inn hE (.inr rfl) (a := .tuple [.agg [.flt .f32 (some 0), .flt .f32 (some 0), .flt .f32 (some 0)], .int .i64 6]) (by kernel_rfl) (Grew.trans (Grew.refl _) (gk st)) rfl ⟨?_, rfl⟩)
  unfold centreF; rw [if_pos f6, if_pos (by omega)]
 ·
  intro vs ls H7 E7 st hE
  have f8 : ¬ ((ms.length : Int) = 0) := df st 0
  have f9 : (okMap x ms) = true := bf st 1
  obtain ⟨p10, e11, r12, n13⟩ := ptr_of st.inn hE 1 0 (by kernel_rfl) (ds := [.flt .f32 x, S]) (by kernel_rfl)
  have op10 : H.next ≤ p10 := Nat.le_trans (Nat.le_refl _) (n13 (Nat.le_of_ble_eq_true rfl))
  obtain ⟨p14, e15, r16, n17⟩ := ptr_of st.inn hE 2 1 (by kernel_rfl) (ds := [.flt .f32 (some 0), .flt .f32 (some 0), .flt .f32 (some 0)]) (by kernel_rfl)
  have op14 : H.next ≤ p14 := Nat.le_trans (Nat.le_refl _) (n17 (Nat.le_of_ble_eq_true rfl))
  have ne18 : Apart p10 p14 := ⟨ptr_ne st.inn hE 1 0 2 1 (by kernel_rfl) (by kernel_rfl) (cs := [.nd 0 (.flt .f32), .nd 1 .one]) (by kernel_rfl) (by decide) e11 e15⟩
  clear st hE vs ls
  exact absurd hn0 (by omega)
theorem k_impl_CentreOf (H : AHeap) (x : Option Nat) (hx : fOk .f32 x) (ms : List (List AV)) (hr : Recs KM ms) (S : AV) (hS : SlL H 9 ms S) (mxms : ms.length ≤ 1048576) : APure Try.prog 40 [.agg [.flt .f32 x, S]] H (.tuple [.agg (centreF x ms).1, .int .i64 (centreF x ms).2]) := by
 rcases Nat.eq_zero_or_pos ms.length with h0 | h0
 ·
  exact k_impl_Centre0 H x hx ms hr S hS mxms h0
 ·
  obtain ⟨l, cap, rest, wr, eS, gB, hcap⟩ := hS.isSlC h0
  exact k_impl_Centre1 H x hx ms hr S hS mxms h0 l cap eS hcap
end Go.Proofs.Ytgjhjemmddojfaa
