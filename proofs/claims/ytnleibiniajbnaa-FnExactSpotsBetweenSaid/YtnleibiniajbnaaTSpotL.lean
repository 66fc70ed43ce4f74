/- Contracts: spots that are copied and compared, by the law; floors of quotients, greater words, by both. -/
import Derived.Test.YtnleibiniajbnaaTHeldS
import Derived.Test.YtnleibiniajbnaaSxE
set_option linter.unusedVariables false
set_option linter.unusedSimpArgs false
namespace Go.Proofs.Ytnleibiniajbnaa
open Go.Ab
set_option maxRecDepth 100000
set_option maxHeartbeats 1000000
attribute [local irreducible] Res
def floorX (a b : Int) : Int := if Int.tmod a b < 0 then IntKind.i64.wrap (IntKind.i64.wrap (Int.tdiv a b) - 1) else IntKind.i64.wrap (Int.tdiv a b)
theorem k_quotient (H : AHeap) (a b : Int) (hb : b ≠ 0) : APure Try.prog 113 [.int .i64 a, .int .i64 b] H (.int .i64 (floorX a b)) := by
 refine res_start h_impl_quotient (by simp) ?_
 have q1 : KdsL [KI, KI] [.int .i64 a, .int .i64 b] := .cons ⟨_, rfl⟩ (.cons ⟨_, rfl⟩ .nil)
 refine run_mc (φ := φ0) (pm := pmR 0 [] 2) 20 (ws := []) (env := [(0, nI 0), (1, nI 1)]) q1 .nil (sepOk_ro rfl) .nil (eC q1 (.cons (t := 0) rfl (.cons (t := 1) rfl .nil))) tb_ok ap_ok ?_
 refine all1 (by kernel_rfl) ?_
 intro vs ls H2 E2 st hE
 have b3 := eo st hE 6 (.int .i64 a)
 have b4 := eo st hE 7 (.int .i64 b)
 have b5 := eo st hE 0 (.int .i64 a)
 have b6 := eo st hE 1 (.int .i64 b)
 have g7 : Grew H H2 := (gk st)
 have g8 : Grew H H2 := Grew.trans (Grew.refl _) g7
 clear st hE vs ls
 refine res_bin (d := some 8) (b := .quo) (x := .tmp 6) (y := .tmp 7) (r := .int .i64 (IntKind.wrap .i64 (Int.tdiv a b))) (by kernel_rfl) (quo_val b3 b4 hb) ?_
 have q9 := q1.app (.cons ⟨_, rfl⟩ .nil : KdsL [KI] [.int .i64 (IntKind.wrap .i64 (Int.tdiv a b))])
 refine run_mc (φ := φ0) (pm := pmR 0 [] 2) 20 (ws := []) (env := [(6, nI 0), (7, nI 1), (0, nI 0), (1, nI 1), (8, nI 2)]) q9 .nil (sepOk_ro rfl) .nil (eC q9 (.cons (put_ne rfl b3) (.cons (put_ne rfl b4) (.cons (put_ne rfl b5) (.cons (put_ne rfl b6) (.cons put_same .nil)))))) tb_ok ap_ok ?_
 refine all1 (by kernel_rfl) ?_
 intro vs ls H10 E10 st hE
 have b11 := eo st hE 9 (.int .i64 a)
 have b12 := eo st hE 10 (.int .i64 b)
 have b13 := eo st hE 5 (.int .i64 (IntKind.wrap .i64 (Int.tdiv a b)))
 have g14 : Grew H2 H10 := (gk st)
 have g15 : Grew H H10 := Grew.trans g8 g14
 clear st hE vs ls
 refine res_bin (d := some 11) (b := .rem) (x := .tmp 9) (y := .tmp 10) (r := .int .i64 (Int.tmod a b)) (by kernel_rfl) (rem_val b11 b12 hb) ?_
 have q16 := q9.app (.cons ⟨_, rfl⟩ .nil : KdsL [KI] [.int .i64 (Int.tmod a b)])
 refine run_mc (φ := φ0) (pm := pmR 0 [] 2) 20 (ws := []) (env := [(9, nI 0), (10, nI 1), (5, nI 2), (11, nI 3)]) q16 .nil (sepOk_ro rfl) .nil (eC q16 (.cons (put_ne rfl b11) (.cons (put_ne rfl b12) (.cons (put_ne rfl b13) (.cons put_same .nil))))) tb_ok ap_ok ?_
 refine all2 (by kernel_rfl) ?_ ?_
 ·
  intro vs ls H17 E17 st hE
  have f18 : (Int.tmod a b) < 0 := dt st 0
  refine res_ex (by kernel_rfl) (end_flat st.inn hE (.inr rfl) (a := .int .i64 (IntKind.wrap .i64 ((IntKind.wrap .i64 (Int.tdiv a b)) - 1))) (by kernel_rfl) (Grew.trans g15 (gk st)) rfl ⟨?_, rfl⟩)
  unfold floorX; rw [if_pos (by simp [*])]
 ·
  intro vs ls H19 E19 st hE
  have f20 : ¬ ((Int.tmod a b) < 0) := df st 0
  refine res_ex (by kernel_rfl) (end_flat st.inn hE (.inr rfl) (a := .int .i64 (IntKind.wrap .i64 (Int.tdiv a b))) (by kernel_rfl) (Grew.trans g15 (gk st)) rfl ⟨?_, rfl⟩)
  unfold floorX; rw [if_neg (by simp [*])]
theorem k_l07Floor (H : AHeap) (a b : Int) (hb : b ≠ 0) : APure Try.prog 112 [.int .i64 a, .int .i64 b] H (.int .i64 (floorX a b)) := by
 refine res_start h_spec_l07Floor (by simp) ?_
 have q1 : KdsL [KI, KI] [.int .i64 a, .int .i64 b] := .cons ⟨_, rfl⟩ (.cons ⟨_, rfl⟩ .nil)
 refine run_mc (φ := φ0) (pm := pmR 0 [] 2) 20 (ws := []) (env := [(0, nI 0), (1, nI 1)]) q1 .nil (sepOk_ro rfl) .nil (eC q1 (.cons (t := 0) rfl (.cons (t := 1) rfl .nil))) tb_ok ap_ok ?_
 refine all1 (by kernel_rfl) ?_
 intro vs ls H2 E2 st hE
 have b3 := eo st hE 6 (.int .i64 a)
 have b4 := eo st hE 7 (.int .i64 b)
 have b5 := eo st hE 0 (.int .i64 a)
 have b6 := eo st hE 1 (.int .i64 b)
 have g7 : Grew H H2 := (gk st)
 have g8 : Grew H H2 := Grew.trans (Grew.refl _) g7
 clear st hE vs ls
 refine res_bin (d := some 8) (b := .quo) (x := .tmp 6) (y := .tmp 7) (r := .int .i64 (IntKind.wrap .i64 (Int.tdiv a b))) (by kernel_rfl) (quo_val b3 b4 hb) ?_
 have q9 := q1.app (.cons ⟨_, rfl⟩ .nil : KdsL [KI] [.int .i64 (IntKind.wrap .i64 (Int.tdiv a b))])
 refine run_mc (φ := φ0) (pm := pmR 0 [] 2) 20 (ws := []) (env := [(6, nI 0), (7, nI 1), (0, nI 0), (1, nI 1), (8, nI 2)]) q9 .nil (sepOk_ro rfl) .nil (eC q9 (.cons (put_ne rfl b3) (.cons (put_ne rfl b4) (.cons (put_ne rfl b5) (.cons (put_ne rfl b6) (.cons put_same .nil)))))) tb_ok ap_ok ?_
 refine all1 (by kernel_rfl) ?_
 intro vs ls H10 E10 st hE
 have b11 := eo st hE 9 (.int .i64 a)
 have b12 := eo st hE 10 (.int .i64 b)
 have b13 := eo st hE 5 (.int .i64 (IntKind.wrap .i64 (Int.tdiv a b)))
 have g14 : Grew H2 H10 := (gk st)
 have g15 : Grew H H10 := Grew.trans g8 g14
 clear st hE vs ls
 refine res_bin (d := some 11) (b := .rem) (x := .tmp 9) (y := .tmp 10) (r := .int .i64 (Int.tmod a b)) (by kernel_rfl) (rem_val b11 b12 hb) ?_
 have q16 := q9.app (.cons ⟨_, rfl⟩ .nil : KdsL [KI] [.int .i64 (Int.tmod a b)])
 refine run_mc (φ := φ0) (pm := pmR 0 [] 2) 20 (ws := []) (env := [(9, nI 0), (10, nI 1), (5, nI 2), (11, nI 3)]) q16 .nil (sepOk_ro rfl) .nil (eC q16 (.cons (put_ne rfl b11) (.cons (put_ne rfl b12) (.cons (put_ne rfl b13) (.cons put_same .nil))))) tb_ok ap_ok ?_
 refine all2 (by kernel_rfl) ?_ ?_
 ·
  intro vs ls H17 E17 st hE
  have f18 : (Int.tmod a b) < 0 := dt st 0
  refine res_ex (by kernel_rfl) (end_flat st.inn hE (.inr rfl) (a := .int .i64 (IntKind.wrap .i64 ((IntKind.wrap .i64 (Int.tdiv a b)) - 1))) (by kernel_rfl) (Grew.trans g15 (gk st)) rfl ⟨?_, rfl⟩)
  unfold floorX; rw [if_pos (by simp [*])]
 ·
  intro vs ls H19 E19 st hE
  have f20 : ¬ ((Int.tmod a b) < 0) := df st 0
  refine res_ex (by kernel_rfl) (end_flat st.inn hE (.inr rfl) (a := .int .i64 (IntKind.wrap .i64 (Int.tdiv a b))) (by kernel_rfl) (Grew.trans g15 (gk st)) rfl ⟨?_, rfl⟩)
  unfold floorX; rw [if_neg (by simp [*])]
theorem k_l00Max (H : AHeap) (a b : Int) : APure Try.prog 111 [.int .i64 a, .int .i64 b] H (.int .i64 (mxI a b)) := by
 refine res_start h_spec_l00Max (by simp) ?_
 have q1 : KdsL [KI, KI] [.int .i64 a, .int .i64 b] := .cons ⟨_, rfl⟩ (.cons ⟨_, rfl⟩ .nil)
 refine run_mc (φ := φ0) (pm := pmR 0 [] 2) 20 (ws := []) (env := [(0, nI 0), (1, nI 1)]) q1 .nil (sepOk_ro rfl) .nil (eC q1 (.cons (t := 0) rfl (.cons (t := 1) rfl .nil))) tb_ok ap_ok ?_
 refine all2 (by kernel_rfl) ?_ ?_
 ·
  intro vs ls H2 E2 st hE
  have f3 : b < a := dt st 0
  refine res_ex (by kernel_rfl) (end_flat st.inn hE (.inr rfl) (a := .int .i64 a) (by kernel_rfl) (Grew.trans (Grew.refl _) (gk st)) rfl ⟨?_, rfl⟩)
  unfold mxI; congr 1; split <;> omega
 ·
  intro vs ls H4 E4 st hE
  have f5 : ¬ (b < a) := df st 0
  refine res_ex (by kernel_rfl) (end_flat st.inn hE (.inr rfl) (a := .int .i64 b) (by kernel_rfl) (Grew.trans (Grew.refl _) (gk st)) rfl ⟨?_, rfl⟩)
  unfold mxI; congr 1; split <;> omega
theorem k_toSpot (H : AHeap) (x y : Int) : APure Try.prog 25 [.agg [.int .i16 x, .int .i16 y]] H (.agg [.int .i16 x, .int .i16 y]) := by
 refine res_start h_laws_toSpot (by simp) ?_
 have q1 : KdsL [.int .i16, .int .i16] [.int .i16 x, .int .i16 y] := .cons ⟨_, rfl⟩ (.cons ⟨_, rfl⟩ .nil)
 refine run_mc (φ := φ0) (pm := pmR 0 [] 10) 20 (ws := []) (env := [(0, .agg [.nd 0 (.int .i16), .nd 1 (.int .i16)])]) q1 .nil (sepOk_ro rfl) .nil (eC q1 (.cons (t := 0) rfl .nil)) tb_ok ap_ok ?_
 refine all1 (by kernel_rfl) ?_
 intro vs ls H2 E2 st hE
 refine res_ex (by kernel_rfl) (end_flat st.inn hE (.inr rfl) (a := .agg [.int .i16 x, .int .i16 y]) (by kernel_rfl) (Grew.trans (Grew.refl _) (gk st)) rfl ⟨?_, rfl⟩)
 rfl
theorem k_eqSpot (H : AHeap) (x y : Int) : APure Try.prog 75 [.agg [.int .i16 x, .int .i16 y], .agg [.int .i16 x, .int .i16 y]] H (.bool true) := by
 refine res_start h_laws_eqSpot (by simp) ?_
 have q1 : KdsL [.int .i16, .int .i16] [.int .i16 x, .int .i16 y] := .cons ⟨_, rfl⟩ (.cons ⟨_, rfl⟩ .nil)
 refine run_mc (φ := φ0) (pm := pmR 0 [] 10) 20 (ws := []) (env := [(0, .agg [.nd 0 (.int .i16), .nd 1 (.int .i16)]), (1, .agg [.nd 0 (.int .i16), .nd 1 (.int .i16)])]) q1 .nil (sepOk_ro rfl) .nil (eC q1 (.cons (t := 0) rfl (.cons (t := 1) rfl .nil))) tb_ok ap_ok ?_
 refine all1 (by kernel_rfl) ?_
 intro vs ls H2 E2 st hE
 refine res_ex (by kernel_rfl) (end_flat st.inn hE (.inr rfl) (a := .bool true) (by kernel_rfl) (Grew.trans (Grew.refl _) (gk st)) rfl ⟨?_, rfl⟩)
 rfl
theorem k_eqSpotS (H : AHeap) (ms : List (List AV)) (hr : Recs KS ms) (S S' : AV) (hS : SlL H 2 ms S) (hS' : SlL H 2 ms S') (hmx : ms.length < 2 ^ 40) : APure Try.prog 27 [S, S'] H (.bool true) := by
 refine res_start h_laws_eqSpotS (by simp) ?_
 have q1 : KdsL [.one, .one, KI, KI] [S, S', .int .i64 (ms.length : Int), .int .i64 (ms.length : Int)] := .cons (slOne hS) (.cons (slOne hS') (.cons ⟨_, rfl⟩ (.cons ⟨_, rfl⟩ .nil)))
 refine run_mc (φ := φ0) (pm := pmR 0 [(.len (n1 0), nI 2), (.len (n1 1), nI 3)] 0) 20 (ws := []) (env := [(0, n1 0), (1, n1 1)]) q1 .nil (sepOk_ro rfl) (.cons (⟨_, _, (dE q1), (dE q1), slLen hS⟩) (.cons (⟨_, _, (dE q1), (dE q1), slLen hS'⟩) .nil)) (eC q1 (.cons (t := 0) rfl (.cons (t := 1) rfl .nil))) tb_ok ap_ok ?_
 refine all2 (by kernel_rfl) ?_ ?_
 ·
  intro vs ls H2 E2 st hE
  have f3 : ¬ ((ms.length : Int) = (ms.length : Int)) := df st 0
  exact absurd rfl f3
 ·
  intro vs ls H4 E4 st hE
  have f5 : (ms.length : Int) = (ms.length : Int) := dt st 0
  have b6 := eo st hE 5 (.int .i64 0)
  have b7 := eo st hE 0 S
  have b8 := eo st hE 1 (S')
  have g9 : Grew H H4 := (gk st)
  have g10 : Grew H H4 := Grew.trans (Grew.refl _) g9
  clear st hE vs ls
  refine res_scan (by kernel_rfl) [(0, S), (1, S')] 5 ms.length (fun i => True) (.cons b7 (.cons b8 .nil)) b6 (Grew.refl _) trivial ?_
  intro i11 hli11 hIi11 Ei11 Hi11 hsi11 hci11 hgi11
  have g12 : Grew H Hi11 := Grew.trans g10 hgi11
  have q13 := q1.app (.cons ⟨_, rfl⟩ (.cons ⟨_, rfl⟩ .nil) : KdsL [KI, KI] [.int .i64 (i11 : Int), .int .i64 (ms.length : Int)])
  refine run_mc (φ := φ0) (pm := pmR 0 [(.len (n1 0), nI 5)] 0) 20 (ws := []) (env := [(0, n1 0), (1, n1 1), (5, nI 4)]) q13 .nil (sepOk_ro rfl) (.cons (⟨_, _, (dE q13), (dE q13), slLen hS⟩) .nil) (eC q13 (.cons (hsi11.at 0 rfl) (.cons (hsi11.at 1 rfl) (.cons hci11 .nil)))) tb_ok ap_ok ?_
  refine all2 (by kernel_rfl) ?_ ?_
  ·
   intro vs ls H14 E14 st hE
   have f15 : (i11 : Int) < (ms.length : Int) := dt st 0
   have b16 := eo st hE 17 S
   have b17 := eo st hE 18 (.int .i64 (i11 : Int))
   have b18 := eo st hE 1 (S')
   have b19 := eo st hE 5 (.int .i64 (i11 : Int))
   have b20 := eo st hE 0 S
   have g21 : Grew Hi11 H14 := (gk st)
   have g22 : Grew H H14 := Grew.trans g12 g21
   have g23 : Grew H4 H14 := Grew.trans hgi11 g21
   clear st hE vs ls
   have hlt24 : i11 < ms.length := by omega
   obtain ⟨lS24, cap24, rest24, wr24, eS24, gB24⟩ := hS.isSl hlt24
   have gS24 := g22.at gB24
   obtain ⟨v24_0, v24_1, hm24⟩ := partsSpot (hr.get hlt24)
   have he24 : ms.getD i11 [] = [.int .i16 v24_0, .int .i16 v24_1] := by rw [← hm24, List.getD_eq_getElem?_getD, List.getElem?_eq_getElem hlt24]; rfl
   have q25 := q13.app (.cons ⟨_, rfl⟩ (.cons ⟨_, rfl⟩ .nil) : KdsL [.int .i16, .int .i16] [.int .i16 v24_0, .int .i16 v24_1])
   refine run_mc (φ := φ0) (pm := pmR 1 [(.ia 2 (n1 0) (nI 4), .ptr 0 0)] 0) 20 (ws := [⟨lS24, (i11 * 2), [.nd 6 (.int .i16), .nd 7 (.int .i16)], false⟩]) (env := [(17, n1 0), (18, nI 4), (1, n1 1), (5, nI 4), (0, n1 0)]) q25 (.cons (win_elem hr gS24 hlt24 rfl (by rw [hm24]; exact (dL q25))) .nil) (sepOk_ro rfl) (.cons (rule_iaS (k := i11) (dE q25) eS24 (dE q25) hlt24 rfl) .nil) (eC q25 (.cons b16 (.cons b17 (.cons b18 (.cons b19 (.cons b20 .nil)))))) tb_ok ap_ok ?_
   refine all1 (by kernel_rfl) ?_
   intro vs ls H26 E26 st hE
   have b27 := eo st hE 21 (S')
   have b28 := eo st hE 22 (.int .i64 (i11 : Int))
   have b29 := eo st hE 20 (.agg [.int .i16 v24_0, .int .i16 v24_1])
   have b30 := eo st hE 5 (.int .i64 (i11 : Int))
   have b31 := eo st hE 0 S
   have b32 := eo st hE 1 (S')
   have g33 : Grew H14 H26 := (gk st)
   have g34 : Grew H H26 := Grew.trans g22 g33
   have g35 : Grew H4 H26 := Grew.trans g23 g33
   clear st hE vs ls
   have hlt37 : i11 < ms.length := by omega
   obtain ⟨lS37, cap37, rest37, wr37, eS37, gB37⟩ := hS'.isSl hlt37
   have gS37 := g34.at gB37
   obtain ⟨v37_0, v37_1, hm37⟩ := partsSpot (hr.get hlt37)
   have he37 : ms.getD i11 [] = [.int .i16 v37_0, .int .i16 v37_1] := by rw [← hm37, List.getD_eq_getElem?_getD, List.getElem?_eq_getElem hlt37]; rfl
   have hq37 := he24.symm.trans he37
   simp only [List.cons.injEq, AV.flt.injEq, AV.int.injEq, Int.natCast_inj, true_and, and_true] at hq37
   obtain ⟨rfl, rfl⟩ := hq37
   have q38 := q25.app (.cons ⟨_, rfl⟩ (.cons ⟨_, rfl⟩ .nil) : KdsL [.int .i16, .int .i16] [.int .i16 v24_0, .int .i16 v24_1])
   refine run_mc (φ := φ0) (pm := pmR 1 [(.ia 2 (n1 1) (nI 4), .ptr 0 0), (.call 75 [.agg [.nd 6 (.int .i16), .nd 7 (.int .i16)], .agg [.nd 8 (.int .i16), .nd 9 (.int .i16)]], .lit (.bool true))] 0) 20 (ws := [⟨lS37, (i11 * 2), [.nd 8 (.int .i16), .nd 9 (.int .i16)], false⟩]) (env := [(21, n1 1), (22, nI 4), (20, .agg [.nd 6 (.int .i16), .nd 7 (.int .i16)]), (5, nI 4), (0, n1 0), (1, n1 1)]) q38 (.cons (win_elem hr gS37 hlt37 rfl (by rw [hm37]; exact (dL q38))) .nil) (sepOk_ro rfl) (.cons (rule_iaS (k := i11) (dE q38) eS37 (dE q38) hlt37 rfl) (.cons (rule_call (args := [.agg [.int .i16 v24_0, .int .i16 v24_1], .agg [.int .i16 v24_0, .int .i16 v24_1]]) (dL q38) (dE q38) (fun H9 hk => k_eqSpot H9 v24_0 v24_1)) .nil)) (eC q38 (.cons b27 (.cons b28 (.cons b29 (.cons b30 (.cons b31 (.cons b32 .nil))))))) tb_ok ap_ok ?_
   refine all1 (by kernel_rfl) ?_
   intro vs ls H39 E39 st hE
   have hlti11 : i11 < ms.length := by omega
   refine res_next (sl := [(0, S), (1, S')]) (ti := 5) (i := i11) (Inv := fun i => True) (by kernel_rfl) st.inn hE hlti11 (by kernel_rfl) (w := (IntKind.wrap .i64 ((i11 : Int) + 1))) (by kernel_rfl) (wrap64 (by omega)) (Grew.trans g35 (gk st)) ?_
   trivial
  ·
   intro vs ls H40 E40 st hE
   have f41 : ¬ ((i11 : Int) < (ms.length : Int)) := df st 0
   have b42 := eo st hE 5 (.int .i64 (i11 : Int))
   have b43 := eo st hE 0 S
   have b44 := eo st hE 12 S
   have b45 := eo st hE 11 (.int .i64 (i11 : Int))
   have b46 := eo st hE 13 (.int .i64 (ms.length : Int))
   obtain ⟨w47, hw47⟩ : ∃ z, z = (decide ((i11 : Int) < (ms.length : Int))) := ⟨_, rfl⟩
   have b48 : E40 14 = .bool w47 := by rw [hw47]; exact eo st hE 14 _
   have b49 := eo st hE 1 (S')
   have g50 : Grew Hi11 H40 := (gk st)
   have g51 : Grew H H40 := Grew.trans g12 g50
   clear st hE vs ls
   refine res_exit (id := 0) (by kernel_rfl) ?_
   have q53 := q13.app (.cons ⟨_, rfl⟩ .nil : KdsL [.bool] [.bool w47])
   refine run_mc (φ := φ0) (pm := pmR 0 [] 0) 20 (ws := []) (env := [(5, nI 4), (0, n1 0), (12, n1 0), (11, nI 4), (13, nI 5), (14, nB 6), (1, n1 1)]) q53 .nil (sepOk_ro rfl) .nil (eC q53 (.cons b42 (.cons b43 (.cons b44 (.cons b45 (.cons b46 (.cons b48 (.cons b49 .nil)))))))) tb_ok ap_ok ?_
   refine all1 (by kernel_rfl) ?_
   intro vs ls H54 E54 st hE
   refine res_ex (by kernel_rfl) (end_flat st.inn hE (.inr rfl) (a := .bool true) (by kernel_rfl) (Grew.trans g51 (gk st)) rfl ⟨?_, rfl⟩)
   rfl
theorem w_markSpotS (H : AHeap) (ms : List (List AV)) (hr : Recs KS ms) (S : AV) (hS : SlW H 2 ms S) (k : Int) (h0 : 0 ≤ k) (h1 : k ≤ 1152921504606846976) (hmax : ms.length ≤ 1048576) : ACalls Try.prog 28 [S, .int .i64 k] H fun r H' => r = .int .i64 (k + 2 * (ms.length : Int)) ∧ OnlyS S H H' ∧ SlW H' 2 (mksSpot k ms.length) S := by
 cases hS with
 | @sl l n cap rest hg hn hc =>
  subst hn
  refine (k_markSpotS H ms hr l cap rest hg k h0 h1 hmax).mono ?_
  rintro r H' ⟨rfl, ho, row⟩
  exact ⟨rfl, .of_only ho, .sl row (mksSpot_len _ _) hc⟩
 | nil h =>
  subst h
  refine res_start h_laws_markSpotS (by simp) ?_
  have q1 : KdsL [KI] [.int .i64 k] := .cons ⟨_, rfl⟩ .nil
  refine run_mc (φ := φ0) (pm := pmR 0 [] 2) 20 (ws := []) (env := [(0, .lit .nilslice), (1, nI 0)]) q1 .nil (sepOk_ro rfl) .nil (eC q1 (.cons (t := 0) rfl (.cons (t := 1) rfl .nil))) tb_ok ap_ok ?_
  refine all1 (by kernel_rfl) ?_
  intro vs ls H9 E9 st hE
  have g9 : Grew H H9 := (gk st)
  exact res_ex (by kernel_rfl) (end_same st.inn hE (.inr rfl) (a := .int .i64 k) (by kernel_rfl) g9.next ⟨by simp, .of_grew g9, .nil rfl⟩)
end Go.Proofs.Ytnleibiniajbnaa
