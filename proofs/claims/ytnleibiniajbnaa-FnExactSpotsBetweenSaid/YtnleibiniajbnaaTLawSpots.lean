/- The law of SpotsBetween, walked. -/
import Derived.Test.YtnleibiniajbnaaTSpotC
set_option linter.unusedVariables false
set_option linter.unusedSimpArgs false
namespace Go.Proofs.Ytnleibiniajbnaa
open Go.Ab
set_option maxRecDepth 100000
set_option maxHeartbeats 1000000
attribute [local irreducible] Res
theorem i16_rng {n : Int} (h : (Lit.int .i16 n).wf = true) : -32768 ≤ n ∧ n ≤ 32767 := by
 simp only [Lit.wf, Bool.and_eq_true, decide_eq_true_eq] at h
 have e1 : IntKind.i16.min = -32768 := rfl
 have e2 : IntKind.i16.max = 32767 := rfl
 rw [e1, e2] at h
 omega
theorem spotArg {H : AHeap} {a : AV} (h : FitArg H (true, [.int .i16, .int .i16]) a) : ∃ x y : Int, a = .agg [.int .i16 x, .int .i16 y] ∧ (-32768 ≤ x ∧ x ≤ 32767) ∧ (-32768 ≤ y ∧ y ≤ 32767) := by
 obtain ⟨cs, rfl, hl, hc⟩ := h
 match cs, hl with
 | [c0, c1], _ =>
  have h0 := hc 0 _ _ rfl rfl
  have h1 := hc 1 _ _ rfl rfl
  cases h0 with | int h0 => cases h1 with | int h1 =>
  exact ⟨_, _, rfl, i16_rng h0, i16_rng h1⟩
theorem lawExactSpotsBetween (H : AHeap) (vs : List AV) (h : FitArgs H [(true, [.int .i16, .int .i16]), (true, [.int .i16, .int .i16])] vs) : ACalls Try.prog 6 vs H fun r _ => r = .bool true := by
 match vs, h with
 | [a, b], h =>
 obtain ⟨a0, a1, rfl, r0, r1⟩ := spotArg h.1
 obtain ⟨b0, b1, rfl, r2, r3⟩ := spotArg h.2.1
 clear h
 obtain ⟨L, c, hV⟩ : ∃ L c, spotsV a0 a1 b0 b1 = (L, c) := ⟨_, _, rfl⟩
 obtain ⟨hL, mxL⟩ := spotsV_ok hV
 refine res_start h_laws_FnExactSpotsBetween (by simp) ?_
 have q1 : KdsL [.int .i16, .int .i16, .int .i16, .int .i16, KI] [.int .i16 a0, .int .i16 a1, .int .i16 b0, .int .i16 b1, .int .i64 c] := .cons ⟨_, rfl⟩ (.cons ⟨_, rfl⟩ (.cons ⟨_, rfl⟩ (.cons ⟨_, rfl⟩ (.cons ⟨_, rfl⟩ .nil))))
 refine run_mc (φ := φ0) (pm := pmR 0 [(.call 25 [.agg [.nd 0 (.int .i16), .nd 1 (.int .i16)]], .agg [.nd 0 (.int .i16), .nd 1 (.int .i16)]), (.call 25 [.agg [.nd 2 (.int .i16), .nd 3 (.int .i16)]], .agg [.nd 2 (.int .i16), .nd 3 (.int .i16)])] 0) 20 (ws := []) (env := [(0, .agg [.nd 0 (.int .i16), .nd 1 (.int .i16)]), (1, .agg [.nd 2 (.int .i16), .nd 3 (.int .i16)])]) q1 .nil (sepOk_ro rfl) (.cons (rule_call (args := [.agg [.int .i16 a0, .int .i16 a1]]) (dL q1) (dE q1) (fun H9 hk => k_toSpot H9 a0 a1)) (.cons (rule_call (args := [.agg [.int .i16 b0, .int .i16 b1]]) (dL q1) (dE q1) (fun H9 hk => k_toSpot H9 b0 b1)) .nil)) (eC q1 (.cons (t := 0) rfl (.cons (t := 1) rfl .nil))) tb_ok ap_ok ?_
 refine all1 (by kernel_rfl) ?_
 intro vs ls H2 E2 st hE
 obtain ⟨p3, e4, r5, n6⟩ := ptr_of st.inn hE 2 0 (by kernel_rfl) (ds := [.int .i16 a0, .int .i16 a1]) (by kernel_rfl)
 have op3 : H.next ≤ p3 := Nat.le_trans (Nat.le_refl _) (n6 (Nat.le_of_ble_eq_true rfl))
 obtain ⟨p7, e8, r9, n10⟩ := ptr_of st.inn hE 3 1 (by kernel_rfl) (ds := [.int .i16 b0, .int .i16 b1]) (by kernel_rfl)
 have op7 : H.next ≤ p7 := Nat.le_trans (Nat.le_refl _) (n10 (Nat.le_of_ble_eq_true rfl))
 have ne11 : Apart p3 p7 := ⟨ptr_ne st.inn hE 2 0 3 1 (by kernel_rfl) (by kernel_rfl) (cs := [.nd 0 (.int .i16), .nd 1 (.int .i16)]) (by kernel_rfl) (by decide) e4 e8⟩
 have b12 := eo st hE 15 (.agg [.int .i16 a0, .int .i16 a1])
 have b13 := eo st hE 17 (.agg [.int .i16 b0, .int .i16 b1])
 have g14 : Grew H H2 := (gk st)
 have g15 : Grew H H2 := Grew.trans (Grew.refl _) g14
 clear st hE vs ls
 refine res_kid (free := false) (d := (some 18)) (f := 24) (args := [.tmp 15, .tmp 17]) (by kernel_rfl) (R := fun z H' => Grew H2 H' ∧ ∃ S', z = .tuple [S', .int .i64 c] ∧ SlW H' 2 L S' ∧ FreshS H2.next S') ?_ ?_
 ·
  show ACalls _ _ [E2 15, E2 17] _ _
  rw [b12, b13]
  exact (by have h9 := k_spec_SpotsBetween H2 a0 a1 b0 b1 r0 r1 r2 r3; rw [hV] at h9; exact h9)
 rintro z H16 ⟨gH16, S17, rfl, sS17, fS17⟩
 refine ⟨gH16, ?_⟩
 have ne18 : ApartL (S17) p3 := fS17.apartL (H2.lt_of_get r5)
 have ne19 : ApartL (S17) p7 := fS17.apartL (H2.lt_of_get r9)
 have fr20 : FreshS H.next (S17) := fS17.mono g15.next
 have g21 : Grew H H16 := Grew.trans g15 gH16
 have r22 := gH16.at r5
 have r23 := gH16.at r9
 have q24 := q1.app (.cons sS17.one .nil : KdsL [.one] [S17])
 refine run_mc (φ := φ0) (pm := pmR 2 [(.call 25 [.agg [.nd 0 (.int .i16), .nd 1 (.int .i16)]], .agg [.nd 0 (.int .i16), .nd 1 (.int .i16)]), (.call 25 [.agg [.nd 2 (.int .i16), .nd 3 (.int .i16)]], .agg [.nd 2 (.int .i16), .nd 3 (.int .i16)])] 0) 20 (ws := [⟨p3, 0, [.nd 0 (.int .i16), .nd 1 (.int .i16)], false⟩, ⟨p7, 0, [.nd 2 (.int .i16), .nd 3 (.int .i16)], false⟩]) (env := [(15, .agg [.nd 0 (.int .i16), .nd 1 (.int .i16)]), (17, .agg [.nd 2 (.int .i16), .nd 3 (.int .i16)]), (2, .ptr 0 0), (3, .ptr 1 0), (18, .tup [n1 5, nI 4])]) q24 (.cons (wR r22 q24) (.cons (wR r23 q24) .nil)) (sepOk_ro rfl) (.cons (rule_call (args := [.agg [.int .i16 a0, .int .i16 a1]]) (dL q24) (dE q24) (fun H9 hk => k_toSpot H9 a0 a1)) (.cons (rule_call (args := [.agg [.int .i16 b0, .int .i16 b1]]) (dL q24) (dE q24) (fun H9 hk => k_toSpot H9 b0 b1)) .nil)) (eC q24 (.cons (put_ne rfl b12) (.cons (put_ne rfl b13) (.cons (put_ne rfl e4) (.cons (put_ne rfl e8) (.cons put_same .nil)))))) tb_ok ap_ok ?_
 refine all1 (by kernel_rfl) ?_
 intro vs ls H25 E25 st hE
 have b26 := eo st hE 23 (.agg [.int .i16 a0, .int .i16 a1])
 have b27 := eo st hE 25 (.agg [.int .i16 b0, .int .i16 b1])
 have b28 := eo st hE 5 S17
 have b29 := eo st hE 6 (.int .i64 c)
 have b30 := eo st hE 2 (.ptr p3 0)
 have b31 := eo st hE 3 (.ptr p7 0)
 have g32 : Grew H16 H25 := (gk st)
 have g33 : Grew H H25 := Grew.trans g21 g32
 have r34 := g32.at r22
 have r35 := g32.at r23
 have s36 := sS17.grew g32
 clear st hE vs ls
 refine res_kid (free := false) (d := (some 26)) (f := 26) (args := [.tmp 23, .tmp 25]) (by kernel_rfl) (R := fun z H' => Grew H25 H' ∧ ∃ S', z = .tuple [S', .int .i64 c] ∧ SlW H' 2 L S' ∧ FreshS H25.next S') ?_ ?_
 ·
  show ACalls _ _ [E25 23, E25 25] _ _
  rw [b26, b27]
  exact (by have h9 := k_impl_SpotsBetween H25 a0 a1 b0 b1 r0 r1 r2 r3; rw [hV] at h9; exact h9)
 rintro z H37 ⟨gH37, S38, rfl, sS38, fS38⟩
 refine ⟨gH37, ?_⟩
 have ne39 : ApartL (S38) p3 := fS38.apartL (H25.lt_of_get r34)
 have ne40 : ApartL (S38) p7 := fS38.apartL (H25.lt_of_get r35)
 have ne41 : ApartS (S38) (S17) := fS38.apartS s36.lt
 have fr42 : FreshS H.next (S38) := fS38.mono g33.next
 have g43 : Grew H H37 := Grew.trans g33 gH37
 have r44 := gH37.at r34
 have r45 := gH37.at r35
 have s46 := s36.grew gH37
 have q47 := q24.app (.cons sS38.one .nil : KdsL [.one] [S38])
 refine run_mc (φ := φ0) (pm := pmR 2 [(.call 27 [n1 6, n1 5], .lit (.bool true))] 0) 20 (ws := [⟨p3, 0, [.nd 0 (.int .i16), .nd 1 (.int .i16)], false⟩, ⟨p7, 0, [.nd 2 (.int .i16), .nd 3 (.int .i16)], false⟩]) (env := [(23, .agg [.nd 0 (.int .i16), .nd 1 (.int .i16)]), (25, .agg [.nd 2 (.int .i16), .nd 3 (.int .i16)]), (5, n1 5), (6, nI 4), (2, .ptr 0 0), (3, .ptr 1 0), (26, .tup [n1 6, nI 4])]) q47 (.cons (wR r44 q47) (.cons (wR r45 q47) .nil)) (sepOk_ro rfl) (.cons (rule_call (args := [S38, S17]) (dL q47) (dE q47) (fun H9 hk => k_eqSpotS H9 L hL _ _ ((sS38.grew (hk.grew (Nat.le_refl _)))).toL ((s46.grew (hk.grew (Nat.le_refl _)))).toL (mx40 mxL))) .nil) (eC q47 (.cons (put_ne rfl b26) (.cons (put_ne rfl b27) (.cons (put_ne rfl b28) (.cons (put_ne rfl b29) (.cons (put_ne rfl b30) (.cons (put_ne rfl b31) (.cons put_same .nil)))))))) tb_ok ap_ok ?_
 refine all1 (by kernel_rfl) ?_
 intro vs ls H48 E48 st hE
 have b49 := eo st hE 38 S38
 have b50 := eo st hE 39 (.int .i64 1)
 have b51 := eo st hE 7 S38
 have b52 := eo st hE 9 (.int .i64 1)
 have b53 := eo st hE 2 (.ptr p3 0)
 have b54 := eo st hE 3 (.ptr p7 0)
 have b55 := eo st hE 5 S17
 have b56 := eo st hE 6 (.int .i64 c)
 have g57 : Grew H37 H48 := (gk st)
 have g58 : Grew H H48 := Grew.trans g43 g57
 have r59 := g57.at r44
 have r60 := g57.at r45
 have s61 := s46.grew g57
 have s62 := sS38.grew g57
 clear st hE vs ls
 refine res_call (d := (some 40)) (f := 28) (args := [.tmp 38, .tmp 39]) (by kernel_rfl) (R := fun z H' => z = .int .i64 (1 + 2 * (L.length : Int)) ∧ OnlyS S38 H48 H' ∧ SlW H' 2 (mksSpot 1 L.length) S38) ?_ ?_
 ·
  show ACalls _ _ [E48 38, E48 39] _ _
  rw [b49, b50]
  exact w_markSpotS H48 L hL S38 s62 1 (by decide) (by decide) mxL
 rintro z H63 ⟨rfl, oH63, nH63⟩
 have g64 : Grew H H63 := OnlyS.own g58 fr42 oH63
 have r65 := oH63.at r59 (by assumption)
 have r66 := oH63.at r60 (by assumption)
 have s67 := s61.only oH63 (by first | assumption | exact ApartS.symm (by assumption))
 have q68 := q47.app (.cons ⟨_, rfl⟩ .nil : KdsL [KI] [.int .i64 (1 + 2 * (L.length : Int))])
 refine run_mc (φ := φ0) (pm := pmR 2 [(.call 29 [n1 6, .lit (.int .i64 1)], nI 7), (.call 25 [.agg [.nd 0 (.int .i16), .nd 1 (.int .i16)]], .agg [.nd 0 (.int .i16), .nd 1 (.int .i16)]), (.call 25 [.agg [.nd 2 (.int .i16), .nd 3 (.int .i16)]], .agg [.nd 2 (.int .i16), .nd 3 (.int .i16)])] 0) 20 (ws := [⟨p3, 0, [.nd 0 (.int .i16), .nd 1 (.int .i16)], false⟩, ⟨p7, 0, [.nd 2 (.int .i16), .nd 3 (.int .i16)], false⟩]) (env := [(38, n1 6), (39, .lit (.int .i64 1)), (7, n1 6), (9, .lit (.int .i64 1)), (2, .ptr 0 0), (3, .ptr 1 0), (5, n1 5), (6, nI 4), (40, nI 7)]) q68 (.cons (wR r65 q68) (.cons (wR r66 q68) .nil)) (sepOk_ro rfl) (.cons (rule_call (args := [S38, .int .i64 1]) (r := .int .i64 (1 + 2 * (L.length : Int))) (dL q68) (dE q68) (fun H9 hk => k_heldSpotS H9 1 L.length S38 ((nH63.grew (hk.grew (Nat.le_refl _)))).toL (by decide) (by decide) mxL)) (.cons (rule_call (args := [.agg [.int .i16 a0, .int .i16 a1]]) (dL q68) (dE q68) (fun H9 hk => k_toSpot H9 a0 a1)) (.cons (rule_call (args := [.agg [.int .i16 b0, .int .i16 b1]]) (dL q68) (dE q68) (fun H9 hk => k_toSpot H9 b0 b1)) .nil))) (eC q68 (.cons (put_ne rfl b49) (.cons (put_ne rfl b50) (.cons (put_ne rfl b51) (.cons (put_ne rfl b52) (.cons (put_ne rfl b53) (.cons (put_ne rfl b54) (.cons (put_ne rfl b55) (.cons (put_ne rfl b56) (.cons put_same .nil)))))))))) tb_ok ap_ok ?_
 refine all2 (by kernel_rfl) ?_ ?_
 ·
  intro vs ls H69 E69 st hE
  have f70 : (1 + 2 * (L.length : Int)) < 0 := dt st 0
  exact absurd f70 (by omega)
 ·
  intro vs ls H71 E71 st hE
  have f72 : ¬ ((1 + 2 * (L.length : Int)) < 0) := df st 0
  have b73 := eo st hE 51 (.agg [.int .i16 a0, .int .i16 a1])
  have b74 := eo st hE 53 (.agg [.int .i16 b0, .int .i16 b1])
  have b75 := eo st hE 5 S17
  have b76 := eo st hE 6 (.int .i64 c)
  have b77 := eo st hE 7 S38
  have b78 := eo st hE 10 (.int .i64 (1 + 2 * (L.length : Int)))
  have b79 := eo st hE 9 (.int .i64 (1 + 2 * (L.length : Int)))
  have g80 : Grew H63 H71 := (gk st)
  have g81 : Grew H H71 := Grew.trans g64 g80
  have s84 := s67.grew g80
  have s85 := nH63.grew g80
  clear st hE vs ls
  refine res_kid (free := false) (d := (some 54)) (f := 26) (args := [.tmp 51, .tmp 53]) (by kernel_rfl) (R := fun z H' => Grew H71 H' ∧ ∃ S', z = .tuple [S', .int .i64 c] ∧ SlW H' 2 L S' ∧ FreshS H71.next S') ?_ ?_
  ·
   show ACalls _ _ [E71 51, E71 53] _ _
   rw [b73, b74]
   exact (by have h9 := k_impl_SpotsBetween H71 a0 a1 b0 b1 r0 r1 r2 r3; rw [hV] at h9; exact h9)
  rintro z H86 ⟨gH86, S87, rfl, sS87, fS87⟩
  refine ⟨gH86, ?_⟩
  have ne88 : ApartS (S87) (S17) := fS87.apartS s84.lt
  have ne89 : ApartS (S87) (S38) := fS87.apartS s85.lt
  have fr90 : FreshS H.next (S87) := fS87.mono g81.next
  have g91 : Grew H H86 := Grew.trans g81 gH86
  have s92 := s84.grew gH86
  have s93 := s85.grew gH86
  have q94 := q68.app (.cons sS87.one .nil : KdsL [.one] [S87])
  refine run_mc (φ := φ0) (pm := pmR 0 [(.call 27 [n1 8, n1 5], .lit (.bool true)), (.call 29 [n1 6, .lit (.int .i64 1)], nI 7)] 0) 20 (ws := []) (env := [(51, .agg [.nd 0 (.int .i16), .nd 1 (.int .i16)]), (53, .agg [.nd 2 (.int .i16), .nd 3 (.int .i16)]), (5, n1 5), (6, nI 4), (7, n1 6), (10, nI 7), (9, nI 7), (54, .tup [n1 8, nI 4])]) q94 .nil (sepOk_ro rfl) (.cons (rule_call (args := [S87, S17]) (dL q94) (dE q94) (fun H9 hk => k_eqSpotS H9 L hL _ _ ((sS87.grew (hk.grew (Nat.le_refl _)))).toL ((s92.grew (hk.grew (Nat.le_refl _)))).toL (mx40 mxL))) (.cons (rule_call (args := [S38, .int .i64 1]) (r := .int .i64 (1 + 2 * (L.length : Int))) (dL q94) (dE q94) (fun H9 hk => k_heldSpotS H9 1 L.length S38 ((s93.grew (hk.grew (Nat.le_refl _)))).toL (by decide) (by decide) mxL)) .nil)) (eC q94 (.cons (put_ne rfl b73) (.cons (put_ne rfl b74) (.cons (put_ne rfl b75) (.cons (put_ne rfl b76) (.cons (put_ne rfl b77) (.cons (put_ne rfl b78) (.cons (put_ne rfl b79) (.cons put_same .nil))))))))) tb_ok ap_ok ?_
  refine all2 (by kernel_rfl) ?_ ?_
  ·
   intro vs ls H95 E95 st hE
   have f96 : (1 + 2 * (L.length : Int)) < 0 := dt st 0
   exact absurd f96 (by omega)
  ·
   intro vs ls H97 E97 st hE
   have f98 : ¬ ((1 + 2 * (L.length : Int)) < 0) := df st 0
   exact res_ex (by kernel_rfl) (end_same st.inn hE (.inr rfl) (a := .bool true) (by kernel_rfl) (Nat.le_trans g91.next st.kept.1) rfl)
end Go.Proofs.Ytnleibiniajbnaa
