/- Contracts: readings that are copied and compared, by the law; feeds that are valid, by both. -/
import Derived.Test.YtnleibiniajbnaaTHeldR
import Derived.Test.YtnleibiniajbnaaSxE
set_option linter.unusedVariables false
set_option linter.unusedSimpArgs false
namespace Go.Proofs.Ytnleibiniajbnaa
open Go.Ab
set_option maxRecDepth 100000
set_option maxHeartbeats 1000000
attribute [local irreducible] Res
def timeR : List AV → Int
 | .int _ t :: _ => t
 | _ => 0
def feedAt (ms : List (List AV)) (i : Nat) : Bool := decide ((0 ≤ timeR (ms.getD i []) ∧ timeR (ms.getD i []) ≤ 1000000000) ∧ (0 < i → timeR (ms.getD (i - 1) []) < timeR (ms.getD i [])))
def okFeed (ms : List (List AV)) : Bool := decide (ms.length ≤ 256) && allB (feedAt ms) ms.length
theorem k_eqReading (H : AHeap) (t x y z : Int) : APure Try.prog 83 [.agg [.int .i64 t, .int .i16 x, .int .i16 y, .int .i16 z], .agg [.int .i64 t, .int .i16 x, .int .i16 y, .int .i16 z]] H (.bool true) := by
 refine res_start h_laws_eqReading (by simp) ?_
 have q1 : KdsL [KI, .int .i16, .int .i16, .int .i16] [.int .i64 t, .int .i16 x, .int .i16 y, .int .i16 z] := kL
 refine rC 0 10 [] [(0, .agg [nI 0, .nd 1 (.int .i16), .nd 2 (.int .i16), .nd 3 (.int .i16)]), (1, .agg [nI 0, .nd 1 (.int .i16), .nd 2 (.int .i16), .nd 3 (.int .i16)])] q1 (.cons (t := 0) rfl (.cons (t := 1) rfl .nil)) ?_
 refine all1 kr fun vs ls H2 E2 st hE => ?_
 refine rf st hE (.bool true) (Grew.trans (Grew.refl _) (gk st)) ?_
 rfl
theorem k_toReading (H : AHeap) (t x y z : Int) : APure Try.prog 45 [.agg [.int .i64 t, .int .i16 x, .int .i16 y, .int .i16 z]] H (.agg [.int .i64 t, .int .i16 x, .int .i16 y, .int .i16 z]) := by
 refine res_start h_laws_toReading (by simp) ?_
 have q1 : KdsL [KI, .int .i16, .int .i16, .int .i16] [.int .i64 t, .int .i16 x, .int .i16 y, .int .i16 z] := kL
 refine rC 0 10 [] [(0, .agg [nI 0, .nd 1 (.int .i16), .nd 2 (.int .i16), .nd 3 (.int .i16)])] q1 (.cons (t := 0) rfl .nil) ?_
 refine all1 kr fun vs ls H2 E2 st hE => ?_
 refine rf st hE (.agg [.int .i64 t, .int .i16 x, .int .i16 y, .int .i16 z]) (Grew.trans (Grew.refl _) (gk st)) ?_
 rfl
theorem k_eqReadingS (H : AHeap) (ms : List (List AV)) (hr : Recs KR ms) (S S' : AV) (hS : SlL H 4 ms S) (hS' : SlL H 4 ms S') (hmx : ms.length < 2 ^ 40) : APure Try.prog 35 [S, S'] H (.bool true) := by
 refine res_start h_laws_eqReadingS (by simp) ?_
 have q1 : KdsL [.one, .one, KI, KI] [S, S', .int .i64 (ms.length : Int), .int .i64 (ms.length : Int)] := .cons (slOne hS) (.cons (slOne hS') (.cons kA (.cons kA .nil)))
 refine rD 0 0 [(.len (n1 0), nI 2), (.len (n1 1), nI 3)] [] [(0, n1 0), (1, n1 1)] q1 (.cons (⟨_, _, (dE q1), (dE q1), slLen hS⟩) (.cons (⟨_, _, (dE q1), (dE q1), slLen hS'⟩) .nil)) (.cons (t := 0) rfl (.cons (t := 1) rfl .nil)) ?_
 refine all2 kr ?_ ?_
 ·
  intro vs ls H2 E2 st hE
  have f3 : ¬ ((ms.length : Int) = (ms.length : Int)) := df st 0
  exact absurd rfl f3
 ·
  intro vs ls H4 E4 st hE
  have f5 : (ms.length : Int) = (ms.length : Int) := dt st 0
  have b6 := eo st hE 5 (.int .i64 0)
  have b7 := eo st hE 0 S
  have b8 := eo st hE 1 (S')
  have g9 : Grew H H4 := (gk st)
  have g10 : Grew H H4 := Grew.trans (Grew.refl _) g9
  refine res_scan kr [(0, S), (1, S')] 5 ms.length (fun i => True) (.cons b7 (.cons b8 .nil)) b6 (Grew.refl _) trivial ?_
  intro i11 hli11 hIi11 Ei11 Hi11 hsi11 hci11 hgi11
  have g12 := Grew.trans g10 hgi11
  have q13 := q1.app (kL : KdsL [KI, KI] [.int .i64 (i11 : Int), .int .i64 (ms.length : Int)])
  refine rD 0 0 [(.len (n1 0), nI 5)] [] [(0, n1 0), (1, n1 1), (5, nI 4)] q13 (.cons (⟨_, _, (dE q13), (dE q13), slLen hS⟩) .nil) (.cons (hsi11.at 0 rfl) (.cons (hsi11.at 1 rfl) (.cons hci11 .nil))) ?_
  refine all2 kr ?_ ?_
  ·
   intro vs ls H14 E14 st hE
   have f15 : (i11 : Int) < (ms.length : Int) := dt st 0
   have B1 := es st hE [(17, S), (18, .int .i64 (i11 : Int)), (1, S'), (5, .int .i64 (i11 : Int)), (0, S)]
   have g21 : Grew Hi11 H14 := (gk st)
   have g22 := Grew.trans g12 g21
   have g23 := Grew.trans hgi11 g21
   have hlt24 : i11 < ms.length := by omega
   obtain ⟨lS24, cap24, rest24, wr24, eS24, gB24⟩ := hS.isSl hlt24
   have gS24 := g22.at gB24
   obtain ⟨v24_0, v24_1, v24_2, v24_3, hm24⟩ := partsReading (hr.get hlt24)
   have he24 : ms.getD i11 [] = [.int .i64 v24_0, .int .i16 v24_1, .int .i16 v24_2, .int .i16 v24_3] := by rw [← hm24, List.getD_eq_getElem?_getD, List.getElem?_eq_getElem hlt24]; rfl
   have q25 := q13.app (kL : KdsL [KI, .int .i16, .int .i16, .int .i16] [.int .i64 v24_0, .int .i16 v24_1, .int .i16 v24_2, .int .i16 v24_3])
   refine run_mc (φ := φ0) (pm := pmR 1 [(.ia 4 (n1 0) (nI 4), .ptr 0 0)] 0) 20 (ws := [⟨lS24, (i11 * 4), [nI 6, .nd 7 (.int .i16), .nd 8 (.int .i16), .nd 9 (.int .i16)], false⟩]) (env := [(17, n1 0), (18, nI 4), (1, n1 1), (5, nI 4), (0, n1 0)]) q25 (.cons (win_elem hr gS24 hlt24 rfl (by rw [hm24]; exact (dL q25))) .nil) (sepOk_ro rfl) (.cons (rule_iaS (k := i11) (dE q25) eS24 (dE q25) hlt24 rfl) .nil) (eC q25 B1) tb_ok ap_ok ?_
   refine all1 kr fun vs ls H26 E26 st hE => ?_
   have B2 := es st hE [(21, S'), (22, .int .i64 (i11 : Int)), (20, .agg [.int .i64 v24_0, .int .i16 v24_1, .int .i16 v24_2, .int .i16 v24_3]), (5, .int .i64 (i11 : Int)), (0, S), (1, S')]
   have g33 : Grew H14 H26 := (gk st)
   have g34 := Grew.trans g22 g33
   have g35 := Grew.trans g23 g33
   have hlt37 : i11 < ms.length := by omega
   obtain ⟨lS37, cap37, rest37, wr37, eS37, gB37⟩ := hS'.isSl hlt37
   have gS37 := g34.at gB37
   obtain ⟨v37_0, v37_1, v37_2, v37_3, hm37⟩ := partsReading (hr.get hlt37)
   have he37 : ms.getD i11 [] = [.int .i64 v37_0, .int .i16 v37_1, .int .i16 v37_2, .int .i16 v37_3] := by rw [← hm37, List.getD_eq_getElem?_getD, List.getElem?_eq_getElem hlt37]; rfl
   have hq37 := he24.symm.trans he37
   simp only [List.cons.injEq, AV.flt.injEq, AV.int.injEq, Int.natCast_inj, true_and, and_true] at hq37
   obtain ⟨rfl, rfl, rfl, rfl⟩ := hq37
   have q38 := q25.app (kL : KdsL [KI, .int .i16, .int .i16, .int .i16] [.int .i64 v24_0, .int .i16 v24_1, .int .i16 v24_2, .int .i16 v24_3])
   refine run_mc (φ := φ0) (pm := pmR 1 [(.ia 4 (n1 1) (nI 4), .ptr 0 0), (.call 83 [.agg [nI 6, .nd 7 (.int .i16), .nd 8 (.int .i16), .nd 9 (.int .i16)], .agg [nI 10, .nd 11 (.int .i16), .nd 12 (.int .i16), .nd 13 (.int .i16)]], .lit (.bool true))] 0) 20 (ws := [⟨lS37, (i11 * 4), [nI 10, .nd 11 (.int .i16), .nd 12 (.int .i16), .nd 13 (.int .i16)], false⟩]) (env := [(21, n1 1), (22, nI 4), (20, .agg [nI 6, .nd 7 (.int .i16), .nd 8 (.int .i16), .nd 9 (.int .i16)]), (5, nI 4), (0, n1 0), (1, n1 1)]) q38 (.cons (win_elem hr gS37 hlt37 rfl (by rw [hm37]; exact (dL q38))) .nil) (sepOk_ro rfl) (.cons (rule_iaS (k := i11) (dE q38) eS37 (dE q38) hlt37 rfl) (.cons (rule_call (args := [.agg [.int .i64 v24_0, .int .i16 v24_1, .int .i16 v24_2, .int .i16 v24_3], .agg [.int .i64 v24_0, .int .i16 v24_1, .int .i16 v24_2, .int .i16 v24_3]]) (dL q38) (dE q38) (fun H9 hk => k_eqReading H9 v24_0 v24_1 v24_2 v24_3)) .nil)) (eC q38 B2) tb_ok ap_ok ?_
   refine all1 kr fun vs ls H39 E39 st hE => ?_
   have hlti11 : i11 < ms.length := by omega
   refine res_next (sl := [(0, S), (1, S')]) (ti := 5) (i := i11) (Inv := fun i => True) kr st.inn hE hlti11 kr (w := (IntKind.wrap .i64 ((i11 : Int) + 1))) kr (wrap64 om) (Grew.trans g35 (gk st)) ?_
   trivial
  ·
   intro vs ls H40 E40 st hE
   have f41 : ¬ ((i11 : Int) < (ms.length : Int)) := df st 0
   obtain ⟨w47, hw47⟩ : ∃ z, z = (decide ((i11 : Int) < (ms.length : Int))) := ⟨_, rfl⟩
   have b48 : E40 14 = .bool w47 := by rw [hw47]; exact eo st hE 14 _
   have B3 := es st hE [(5, .int .i64 (i11 : Int)), (0, S), (12, S), (11, .int .i64 (i11 : Int)), (13, .int .i64 (ms.length : Int)), (1, S')]
   have g50 : Grew Hi11 H40 := (gk st)
   have g51 := Grew.trans g12 g50
   refine res_exit (id := 0) kr ?_
   have q53 := q13.app (kL : KdsL [.bool] [.bool w47])
   refine rC 0 0 [] [(5, nI 4), (0, n1 0), (12, n1 0), (11, nI 4), (13, nI 5), (1, n1 1), (14, nB 6)] q53 (sc B3 (.cons b48 .nil)) ?_
   refine all1 kr fun vs ls H54 E54 st hE => ?_
   refine rf st hE (.bool true) (Grew.trans g51 (gk st)) ?_
   rfl
theorem w_markReadingS (H : AHeap) (ms : List (List AV)) (hr : Recs KR ms) (S : AV) (hS : SlW H 4 ms S) (k : Int) (h0 : 0 ≤ k) (h1 : k ≤ 1152921504606846976) (hmax : ms.length ≤ 1048576) : ACalls Try.prog 38 [S, .int .i64 k] H fun r H' => r = .int .i64 (k + 4 * (ms.length : Int)) ∧ OnlyS S H H' ∧ SlW H' 4 (mksReading k ms.length) S := by
 cases hS with
 | @sl l n cap rest hg hn hc =>
  subst hn
  refine (k_markReadingS H ms hr l cap rest hg k h0 h1 hmax).mono ?_
  rintro r H' ⟨rfl, ho, row⟩
  exact ⟨rfl, .of_only ho, .sl row (mksReading_len _ _) hc⟩
 | nil h =>
  subst h
  refine res_start h_laws_markReadingS (by simp) ?_
  have q1 : KdsL [KI] [.int .i64 k] := kL
  refine rC 0 2 [] [(0, lN), (1, nI 0)] q1 (.cons (t := 0) rfl (.cons (t := 1) rfl .nil)) ?_
  refine all1 kr fun vs ls H9 E9 st hE => ?_
  have g9 : Grew H H9 := (gk st)
  exact res_ex kr (end_same st.inn hE (.inr rfl) (a := .int .i64 k) kr g9.next ⟨by simp, .of_grew g9, .nil rfl⟩)
theorem k_ValidFeed (H : AHeap) (ms : List (List AV)) (hr : Recs KR ms) (S : AV) (hS : SlL H 4 ms S) (hmx : ms.length < 2 ^ 40) : APure Try.prog 62 [S] H (.bool (okFeed ms)) := by
 refine res_start h_impl_ValidFeed (by simp) ?_
 have q1 : KdsL [.one, KI] [S, .int .i64 (ms.length : Int)] := kL
 refine rD 0 0 [(.len (n1 0), nI 1)] [] [(0, n1 0)] q1 (.cons (⟨_, _, (dE q1), (dE q1), slLen hS⟩) .nil) (.cons (t := 0) rfl .nil) ?_
 refine all1 kr fun vs ls H2 E2 st hE => ?_
 have b3 := eo st hE 7 (.int .i64 0)
 have b4 := eo st hE 6 (.int .i64 (ms.length : Int))
 have b5 := eo st hE 5 S
 have b6 := eo st hE 0 S
 have g7 : Grew H H2 := (gk st)
 have g8 : Grew H H2 := Grew.trans (Grew.refl _) g7
 refine res_scan kr [(6, .int .i64 (ms.length : Int)), (5, S), (0, S)] 7 ms.length (fun i => ∀ j, j < i → feedAt ms j = true) (.cons b4 (.cons b5 (.cons b6 .nil))) b3 (Grew.refl _) upTo0 ?_
 intro i9 hli9 hIi9 Ei9 Hi9 hsi9 hci9 hgi9
 have g10 := Grew.trans g8 hgi9
 have q11 := q1.app (kL : KdsL [KI] [.int .i64 (i9 : Int)])
 refine rC 0 0 [] [(6, nI 1), (5, n1 0), (0, n1 0), (7, nI 2)] q11 (.cons (hsi9.at 0 rfl) (.cons (hsi9.at 1 rfl) (.cons (hsi9.at 2 rfl) (.cons hci9 .nil)))) ?_
 refine all2 kr ?_ ?_
 ·
  intro vs ls H12 E12 st hE
  have f13 : (i9 : Int) < (ms.length : Int) := dt st 0
  have B1 := es st hE [(5, S), (7, .int .i64 (i9 : Int)), (9, .int .i64 (i9 : Int)), (0, S), (6, .int .i64 (ms.length : Int))]
  have g19 : Grew Hi9 H12 := (gk st)
  have g20 := Grew.trans g10 g19
  have g21 := Grew.trans hgi9 g19
  have hlt22 : i9 < ms.length := by omega
  obtain ⟨lS22, cap22, rest22, wr22, eS22, gB22⟩ := hS.isSl hlt22
  have gS22 := g20.at gB22
  obtain ⟨v22_0, v22_1, v22_2, v22_3, hm22⟩ := partsReading (hr.get hlt22)
  have he22 : ms.getD i9 [] = [.int .i64 v22_0, .int .i16 v22_1, .int .i16 v22_2, .int .i16 v22_3] := by rw [← hm22, List.getD_eq_getElem?_getD, List.getElem?_eq_getElem hlt22]; rfl
  have q23 := q11.app (kL : KdsL [KI, .int .i16, .int .i16, .int .i16] [.int .i64 v22_0, .int .i16 v22_1, .int .i16 v22_2, .int .i16 v22_3])
  refine run_mc (φ := φ0) (pm := pmR 1 [(.ia 4 (n1 0) (nI 2), .ptr 0 0)] 0) 20 (ws := [⟨lS22, (i9 * 4), [nI 3, .nd 4 (.int .i16), .nd 5 (.int .i16), .nd 6 (.int .i16)], false⟩]) (env := [(5, n1 0), (7, nI 2), (9, nI 2), (0, n1 0), (6, nI 1)]) q23 (.cons (win_elem hr gS22 hlt22 rfl (by rw [hm22]; exact (dL q23))) .nil) (sepOk_ro rfl) (.cons (rule_iaS (k := i9) (dE q23) eS22 (dE q23) hlt22 rfl) .nil) (eC q23 B1) tb_ok ap_ok ?_
  refine all4 kr ?_ ?_ ?_ ?_
  ·
   intro vs ls H24 E24 st hE
   have f25 : 1000000000 < v22_0 := dt st 0
   have f26 : ¬ (v22_0 < 0) := df st 1
   refine res_ret kr (end_flat st.inn hE (.inr rfl) (a := .bool false) kr (Grew.trans g20 (gk st)) rfl ⟨?_, rfl⟩)
   have tm22 : timeR (ms.getD i9 []) = v22_0 := by rw [he22]; rfl
   have hf9 : feedAt ms i9 = false := decide_eq_false (fun hh => by have h7 := hh.1.1; have h8 := hh.1.2; omega)
   unfold okFeed; rw [allB_at hlt22 hf9, Bool.and_false]
  ·
   intro vs ls H27 E27 st hE
   have f28 : 0 < (i9 : Int) := dt st 0
   have f29 : ¬ (1000000000 < v22_0) := df st 1
   have f30 : ¬ (v22_0 < 0) := df st 2
   obtain ⟨w32, hw32⟩ : ∃ z, z = (IntKind.wrap .i64 ((i9 : Int) - 1)) := ⟨_, rfl⟩
   have b33 : E27 24 = .int .i64 w32 := by rw [hw32]; exact eo st hE 24 _
   obtain ⟨w35, hw35⟩ : ∃ z, z = (decide (0 < (i9 : Int))) := ⟨_, rfl⟩
   have b36 : E27 19 = .bool w35 := by rw [hw35]; exact eo st hE 19 _
   obtain ⟨w37, hw37⟩ : ∃ z, z = (decide (1000000000 < v22_0)) := ⟨_, rfl⟩
   have b38 : E27 16 = .bool w37 := by rw [hw37]; exact eo st hE 16 _
   have B2 := es st hE [(22, S), (21, .int .i64 v22_0), (7, .int .i64 (i9 : Int)), (6, .int .i64 (ms.length : Int)), (5, S), (0, S)]
   have g43 : Grew H12 H27 := (gk st)
   have g44 := Grew.trans g20 g43
   have g45 := Grew.trans g21 g43
   have nw32 : w32 = ((i9 : Int) - 1) := by
    rw [hw32]
    rw [show (IntKind.wrap .i64 ((i9 : Int) - 1)) = (i9 : Int) - 1 from wrap_i64 om om]
   obtain ⟨k47, rfl⟩ : ∃ k : Nat, w32 = (k : Int) := ⟨Int.toNat w32, by omega⟩
   have hlt48 : k47 < ms.length := by omega
   obtain ⟨lS48, cap48, rest48, wr48, eS48, gB48⟩ := hS.isSl hlt48
   have gS48 := g44.at gB48
   obtain ⟨v48_0, v48_1, v48_2, v48_3, hm48⟩ := partsReading (hr.get hlt48)
   have he48 : ms.getD k47 [] = [.int .i64 v48_0, .int .i16 v48_1, .int .i16 v48_2, .int .i16 v48_3] := by rw [← hm48, List.getD_eq_getElem?_getD, List.getElem?_eq_getElem hlt48]; rfl
   have q49 := q23.app (kL : KdsL [KI, .bool, .bool, KI, .int .i16, .int .i16, .int .i16] [.int .i64 (k47 : Int), .bool w35, .bool w37, .int .i64 v48_0, .int .i16 v48_1, .int .i16 v48_2, .int .i16 v48_3])
   refine run_mc (φ := φ0) (pm := pmR 1 [(.ia 4 (n1 0) (nI 7), .ptr 0 0)] 0) 20 (ws := [⟨lS48, (k47 * 4), [nI 10, .nd 11 (.int .i16), .nd 12 (.int .i16), .nd 13 (.int .i16)], false⟩]) (env := [(22, n1 0), (21, nI 3), (7, nI 2), (6, nI 1), (5, n1 0), (0, n1 0), (24, nI 7), (19, nB 8), (16, nB 9)]) q49 (.cons (win_elem hr gS48 hlt48 rfl (by rw [hm48]; exact (dL q49))) .nil) (sepOk_ro rfl) (.cons (rule_iaS (k := k47) (dE q49) eS48 (dE q49) hlt48 rfl) .nil) (eC q49 (sc B2 (.cons b33 (.cons b36 (.cons b38 .nil))))) tb_ok ap_ok ?_
   refine all5 kr ?_ ?_ ?_ ?_ ?_
   ·
    intro vs ls H50 E50 st hE
    have f51 : w37 = true := bf st 0
    have f52 : w35 = true := bf st 1
    rw [hw37] at f51
    exact absurd (of_decide_eq_true f51) f29
   ·
    intro vs ls H61 E61 st hE
    have f62 : ¬ (v48_0 < v22_0) := df st 0
    have f63 : w37 = false := bf st 1
    have f64 : w35 = true := bf st 2
    refine res_ret kr (end_flat st.inn hE (.inr rfl) (a := .bool false) kr (Grew.trans g44 (gk st)) rfl ⟨?_, rfl⟩)
    have tm22 : timeR (ms.getD i9 []) = v22_0 := by rw [he22]; rfl
    have tm48 : timeR (ms.getD k47 []) = v48_0 := by rw [he48]; rfl
    have hf9 : feedAt ms i9 = false := decide_eq_false (fun hh => by have h7 := hh.1.1; have h8 := hh.1.2; have h9 := hh.2 om; rw [show i9 - 1 = k47 by omega] at h9; omega)
    unfold okFeed; rw [allB_at hlt22 hf9, Bool.and_false]
   ·
    intro vs ls H65 E65 st hE
    have f66 : v48_0 < v22_0 := dt st 0
    have f67 : w37 = false := bf st 1
    have f68 : w35 = true := bf st 2
    have hlti9 : i9 < ms.length := by omega
    refine res_next (sl := [(6, .int .i64 (ms.length : Int)), (5, S), (0, S)]) (ti := 7) (i := i9) (Inv := fun i => ∀ j, j < i → feedAt ms j = true) kr st.inn hE hlti9 kr (w := (IntKind.wrap .i64 ((i9 : Int) + 1))) kr (wrap64 om) (Grew.trans g45 (gk st)) ?_
    have tm22 : timeR (ms.getD i9 []) = v22_0 := by rw [he22]; rfl
    have tm48 : timeR (ms.getD k47 []) = v48_0 := by rw [he48]; rfl
    refine upTo hIi9 (decide_eq_true ⟨⟨by omega, by omega⟩, fun h9 => ?_⟩)
    have hk9 : i9 - 1 = k47 := by omega
    rw [hk9]; omega
   ·
    intro vs ls H69 E69 st hE
    have f70 : w37 = true := bf st 0
    have f71 : w35 = false := bf st 1
    rw [hw37] at f70
    exact absurd (of_decide_eq_true f70) f29
   ·
    intro vs ls H80 E80 st hE
    have f81 : w37 = false := bf st 0
    have f82 : w35 = false := bf st 1
    obtain ⟨w83, hw83⟩ : ∃ z, z = (IntKind.wrap .i64 ((i9 : Int) + 1)) := ⟨_, rfl⟩
    have nw83 : w83 = ((i9 : Int) + 1) := by
     rw [hw83]
     rw [show (IntKind.wrap .i64 ((i9 : Int) + 1)) = (i9 : Int) + 1 from wrap_i64 om om]
    rw [hw35] at f82
    exact absurd f28 (of_decide_eq_false f82)
  ·
   intro vs ls H92 E92 st hE
   have f93 : ¬ (0 < (i9 : Int)) := df st 0
   have f94 : ¬ (1000000000 < v22_0) := df st 1
   have f95 : ¬ (v22_0 < 0) := df st 2
   have hlti9 : i9 < ms.length := by omega
   refine res_next (sl := [(6, .int .i64 (ms.length : Int)), (5, S), (0, S)]) (ti := 7) (i := i9) (Inv := fun i => ∀ j, j < i → feedAt ms j = true) kr st.inn hE hlti9 kr (w := (IntKind.wrap .i64 ((i9 : Int) + 1))) kr (wrap64 om) (Grew.trans g21 (gk st)) ?_
   have tm22 : timeR (ms.getD i9 []) = v22_0 := by rw [he22]; rfl
   refine upTo hIi9 (decide_eq_true ⟨⟨by omega, by omega⟩, fun h9 => ?_⟩)
   exfalso; omega
  ·
   intro vs ls H96 E96 st hE
   have f97 : v22_0 < 0 := dt st 0
   refine res_ret kr (end_flat st.inn hE (.inr rfl) (a := .bool false) kr (Grew.trans g20 (gk st)) rfl ⟨?_, rfl⟩)
   have tm22 : timeR (ms.getD i9 []) = v22_0 := by rw [he22]; rfl
   have hf9 : feedAt ms i9 = false := decide_eq_false (fun hh => by have h7 := hh.1.1; have h8 := hh.1.2; omega)
   unfold okFeed; rw [allB_at hlt22 hf9, Bool.and_false]
 ·
  intro vs ls H98 E98 st hE
  have f99 : ¬ ((i9 : Int) < (ms.length : Int)) := df st 0
  obtain ⟨w102, hw102⟩ : ∃ z, z = (decide ((i9 : Int) < (ms.length : Int))) := ⟨_, rfl⟩
  have b103 : E98 8 = .bool w102 := by rw [hw102]; exact eo st hE 8 _
  have B3 := es st hE [(7, .int .i64 (i9 : Int)), (6, .int .i64 (ms.length : Int)), (5, S), (0, S)]
  have g106 : Grew Hi9 H98 := (gk st)
  have g107 := Grew.trans g10 g106
  refine res_exit (id := 0) kr ?_
  have q109 := q11.app (kL : KdsL [.bool, KI] [.bool w102, .int .i64 (ms.length : Int)])
  refine rD 0 0 [(.len (n1 0), nI 4)] [] [(7, nI 2), (6, nI 1), (5, n1 0), (0, n1 0), (8, nB 3)] q109 (.cons (⟨_, _, (dE q109), (dE q109), slLen hS⟩) .nil) (sc B3 (.cons b103 .nil)) ?_
  refine all1 kr fun vs ls H110 E110 st hE => ?_
  refine rf st hE (.bool (!(decide (256 < (ms.length : Int))))) (Grew.trans g107 (gk st)) ?_
  unfold okFeed; rw [allB_true (fun j hj => hIi9 j om), Bool.and_true]
  congr 1; first | rfl | (rw [decide_eq_decide]; omega) | (rw [← decide_not, decide_eq_decide]; omega)
theorem k_l04Feed (H : AHeap) (ms : List (List AV)) (hr : Recs KR ms) (S : AV) (hS : SlL H 4 ms S) (hmx : ms.length < 2 ^ 40) : APure Try.prog 78 [S] H (.bool (okFeed ms)) := by
 refine res_start h_spec_l04Feed (by simp) ?_
 have q1 : KdsL [.one] [S] := kL
 refine rC 0 0 [] [(0, n1 0)] q1 (.cons (t := 0) rfl .nil) ?_
 refine all1 kr fun vs ls H2 E2 st hE => ?_
 have b3 := eo st hE 3 (.int .i64 0)
 have b4 := eo st hE 0 S
 have g5 : Grew H H2 := (gk st)
 have g6 : Grew H H2 := Grew.trans (Grew.refl _) g5
 refine res_scan kr [(0, S)] 3 ms.length (fun i => ∀ j, j < i → feedAt ms j = true) (.cons b4 .nil) b3 (Grew.refl _) upTo0 ?_
 intro i7 hli7 hIi7 Ei7 Hi7 hsi7 hci7 hgi7
 have g8 := Grew.trans g6 hgi7
 have q9 := q1.app (kL : KdsL [KI, KI] [.int .i64 (i7 : Int), .int .i64 (ms.length : Int)])
 refine rD 0 0 [(.len (n1 0), nI 2)] [] [(0, n1 0), (3, nI 1)] q9 (.cons (⟨_, _, (dE q9), (dE q9), slLen hS⟩) .nil) (.cons (hsi7.at 0 rfl) (.cons hci7 .nil)) ?_
 refine all2 kr ?_ ?_
 ·
  intro vs ls H10 E10 st hE
  have f11 : (i7 : Int) < (ms.length : Int) := dt st 0
  have B1 := es st hE [(10, S), (11, .int .i64 (i7 : Int)), (3, .int .i64 (i7 : Int)), (0, S)]
  have g16 : Grew Hi7 H10 := (gk st)
  have g17 := Grew.trans g8 g16
  have g18 := Grew.trans hgi7 g16
  have hlt19 : i7 < ms.length := by omega
  obtain ⟨lS19, cap19, rest19, wr19, eS19, gB19⟩ := hS.isSl hlt19
  have gS19 := g17.at gB19
  obtain ⟨v19_0, v19_1, v19_2, v19_3, hm19⟩ := partsReading (hr.get hlt19)
  have he19 : ms.getD i7 [] = [.int .i64 v19_0, .int .i16 v19_1, .int .i16 v19_2, .int .i16 v19_3] := by rw [← hm19, List.getD_eq_getElem?_getD, List.getElem?_eq_getElem hlt19]; rfl
  have q20 := q9.app (kL : KdsL [KI, .int .i16, .int .i16, .int .i16] [.int .i64 v19_0, .int .i16 v19_1, .int .i16 v19_2, .int .i16 v19_3])
  refine run_mc (φ := φ0) (pm := pmR 1 [(.ia 4 (n1 0) (nI 1), .ptr 0 0)] 0) 20 (ws := [⟨lS19, (i7 * 4), [nI 3, .nd 4 (.int .i16), .nd 5 (.int .i16), .nd 6 (.int .i16)], false⟩]) (env := [(10, n1 0), (11, nI 1), (3, nI 1), (0, n1 0)]) q20 (.cons (win_elem hr gS19 hlt19 rfl (by rw [hm19]; exact (dL q20))) .nil) (sepOk_ro rfl) (.cons (rule_iaS (k := i7) (dE q20) eS19 (dE q20) hlt19 rfl) .nil) (eC q20 B1) tb_ok ap_ok ?_
  refine all4 kr ?_ ?_ ?_ ?_
  ·
   intro vs ls H21 E21 st hE
   have f22 : 1000000000 < v19_0 := dt st 0
   have f23 : ¬ (v19_0 < 0) := df st 1
   refine res_ret kr (end_flat st.inn hE (.inr rfl) (a := .bool false) kr (Grew.trans g17 (gk st)) rfl ⟨?_, rfl⟩)
   have tm19 : timeR (ms.getD i7 []) = v19_0 := by rw [he19]; rfl
   have hf9 : feedAt ms i7 = false := decide_eq_false (fun hh => by have h7 := hh.1.1; have h8 := hh.1.2; omega)
   unfold okFeed; rw [allB_at hlt19 hf9, Bool.and_false]
  ·
   intro vs ls H24 E24 st hE
   have f25 : 0 < (i7 : Int) := dt st 0
   have f26 : ¬ (1000000000 < v19_0) := df st 1
   have f27 : ¬ (v19_0 < 0) := df st 2
   obtain ⟨w29, hw29⟩ : ∃ z, z = (IntKind.wrap .i64 ((i7 : Int) - 1)) := ⟨_, rfl⟩
   have b30 : E24 23 = .int .i64 w29 := by rw [hw29]; exact eo st hE 23 _
   have B2 := es st hE [(21, S), (0, S), (3, .int .i64 (i7 : Int))]
   obtain ⟨w33, hw33⟩ : ∃ z, z = (decide (0 < (i7 : Int))) := ⟨_, rfl⟩
   have b34 : E24 20 = .bool w33 := by rw [hw33]; exact eo st hE 20 _
   obtain ⟨w35, hw35⟩ : ∃ z, z = (decide (1000000000 < v19_0)) := ⟨_, rfl⟩
   have b36 : E24 17 = .bool w35 := by rw [hw35]; exact eo st hE 17 _
   have g37 : Grew H10 H24 := (gk st)
   have g38 := Grew.trans g17 g37
   have g39 := Grew.trans g18 g37
   have nw29 : w29 = ((i7 : Int) - 1) := by
    rw [hw29]
    rw [show (IntKind.wrap .i64 ((i7 : Int) - 1)) = (i7 : Int) - 1 from wrap_i64 om om]
   obtain ⟨k41, rfl⟩ : ∃ k : Nat, w29 = (k : Int) := ⟨Int.toNat w29, by omega⟩
   have hlt42 : k41 < ms.length := by omega
   obtain ⟨lS42, cap42, rest42, wr42, eS42, gB42⟩ := hS.isSl hlt42
   have gS42 := g38.at gB42
   obtain ⟨v42_0, v42_1, v42_2, v42_3, hm42⟩ := partsReading (hr.get hlt42)
   have he42 : ms.getD k41 [] = [.int .i64 v42_0, .int .i16 v42_1, .int .i16 v42_2, .int .i16 v42_3] := by rw [← hm42, List.getD_eq_getElem?_getD, List.getElem?_eq_getElem hlt42]; rfl
   have q43 := q20.app (kL : KdsL [KI, .bool, .bool, KI, .int .i16, .int .i16, .int .i16] [.int .i64 (k41 : Int), .bool w33, .bool w35, .int .i64 v42_0, .int .i16 v42_1, .int .i16 v42_2, .int .i16 v42_3])
   refine run_mc (φ := φ0) (pm := pmR 1 [(.ia 4 (n1 0) (nI 7), .ptr 0 0)] 0) 20 (ws := [⟨lS42, (k41 * 4), [nI 10, .nd 11 (.int .i16), .nd 12 (.int .i16), .nd 13 (.int .i16)], false⟩]) (env := [(21, n1 0), (0, n1 0), (3, nI 1), (23, nI 7), (20, nB 8), (17, nB 9)]) q43 (.cons (win_elem hr gS42 hlt42 rfl (by rw [hm42]; exact (dL q43))) .nil) (sepOk_ro rfl) (.cons (rule_iaS (k := k41) (dE q43) eS42 (dE q43) hlt42 rfl) .nil) (eC q43 (sc B2 (.cons b30 (.cons b34 (.cons b36 .nil))))) tb_ok ap_ok ?_
   refine all3 kr ?_ ?_ ?_
   ·
    intro vs ls H44 E44 st hE
    have f45 : w33 = true := bf st 0
    have B3 := es st hE [(27, S), (28, .int .i64 (i7 : Int)), (26, .int .i64 v42_0), (20, .bool w33), (17, .bool w35), (3, .int .i64 (i7 : Int)), (0, S)]
    have g53 : Grew H24 H44 := (gk st)
    have g54 := Grew.trans g38 g53
    have g55 := Grew.trans g39 g53
    have hlt57 : i7 < ms.length := by omega
    obtain ⟨lS57, cap57, rest57, wr57, eS57, gB57⟩ := hS.isSl hlt57
    have gS57 := g54.at gB57
    obtain ⟨v57_0, v57_1, v57_2, v57_3, hm57⟩ := partsReading (hr.get hlt57)
    have he57 : ms.getD i7 [] = [.int .i64 v57_0, .int .i16 v57_1, .int .i16 v57_2, .int .i16 v57_3] := by rw [← hm57, List.getD_eq_getElem?_getD, List.getElem?_eq_getElem hlt57]; rfl
    have hq57 := he19.symm.trans he57
    simp only [List.cons.injEq, AV.flt.injEq, AV.int.injEq, Int.natCast_inj, true_and, and_true] at hq57
    obtain ⟨rfl, rfl, rfl, rfl⟩ := hq57
    have q58 := q43.app (kL : KdsL [KI, .int .i16, .int .i16, .int .i16] [.int .i64 v19_0, .int .i16 v19_1, .int .i16 v19_2, .int .i16 v19_3])
    refine run_mc (φ := φ0) (pm := pmR 1 [(.ia 4 (n1 0) (nI 1), .ptr 0 0)] 0) 20 (ws := [⟨lS57, (i7 * 4), [nI 14, .nd 15 (.int .i16), .nd 16 (.int .i16), .nd 17 (.int .i16)], false⟩]) (env := [(27, n1 0), (28, nI 1), (26, nI 10), (20, nB 8), (17, nB 9), (3, nI 1), (0, n1 0)]) q58 (.cons (win_elem hr gS57 hlt57 rfl (by rw [hm57]; exact (dL q58))) .nil) (sepOk_ro rfl) (.cons (rule_iaS (k := i7) (dE q58) eS57 (dE q58) hlt57 rfl) .nil) (eC q58 B3) tb_ok ap_ok ?_
    refine all5 kr ?_ ?_ ?_ ?_ ?_
    ·
     intro vs ls H59 E59 st hE
     have f60 : w35 = true := bf st 0
     have f61 : w33 = true := bf st 1
     rw [hw35] at f60
     exact absurd (of_decide_eq_true f60) f26
    ·
     intro vs ls H68 E68 st hE
     have f69 : ¬ (v42_0 < v19_0) := df st 0
     have f70 : w35 = false := bf st 1
     have f71 : w33 = true := bf st 2
     refine res_ret kr (end_flat st.inn hE (.inr rfl) (a := .bool false) kr (Grew.trans g54 (gk st)) rfl ⟨?_, rfl⟩)
     have tm57 : timeR (ms.getD i7 []) = v19_0 := by rw [he57]; rfl
     have tm42 : timeR (ms.getD k41 []) = v42_0 := by rw [he42]; rfl
     have hf9 : feedAt ms i7 = false := decide_eq_false (fun hh => by have h7 := hh.1.1; have h8 := hh.1.2; have h9 := hh.2 om; rw [show i7 - 1 = k41 by omega] at h9; omega)
     unfold okFeed; rw [allB_at hlt57 hf9, Bool.and_false]
    ·
     intro vs ls H72 E72 st hE
     have f73 : v42_0 < v19_0 := dt st 0
     have f74 : w35 = false := bf st 1
     have f75 : w33 = true := bf st 2
     have hlti7 : i7 < ms.length := by omega
     refine res_next (sl := [(0, S)]) (ti := 3) (i := i7) (Inv := fun i => ∀ j, j < i → feedAt ms j = true) kr st.inn hE hlti7 kr (w := (IntKind.wrap .i64 ((i7 : Int) + 1))) kr (wrap64 om) (Grew.trans g55 (gk st)) ?_
     have tm57 : timeR (ms.getD i7 []) = v19_0 := by rw [he57]; rfl
     have tm42 : timeR (ms.getD k41 []) = v42_0 := by rw [he42]; rfl
     refine upTo hIi7 (decide_eq_true ⟨⟨by omega, by omega⟩, fun h9 => ?_⟩)
     have hk9 : i7 - 1 = k41 := by omega
     rw [hk9]; omega
    ·
     intro vs ls H76 E76 st hE
     have f77 : w35 = true := bf st 0
     have f78 : w33 = false := bf st 1
     rw [hw35] at f77
     exact absurd (of_decide_eq_true f77) f26
    ·
     intro vs ls H85 E85 st hE
     have f86 : w35 = false := bf st 0
     have f87 : w33 = false := bf st 1
     obtain ⟨w88, hw88⟩ : ∃ z, z = (IntKind.wrap .i64 ((i7 : Int) + 1)) := ⟨_, rfl⟩
     have nw88 : w88 = ((i7 : Int) + 1) := by
      rw [hw88]
      rw [show (IntKind.wrap .i64 ((i7 : Int) + 1)) = (i7 : Int) + 1 from wrap_i64 om om]
     rw [hw33] at f87
     exact absurd f25 (of_decide_eq_false f87)
   ·
    intro vs ls H95 E95 st hE
    have f96 : w35 = true := bf st 0
    have f97 : w33 = false := bf st 1
    rw [hw35] at f96
    exact absurd (of_decide_eq_true f96) f26
   ·
    intro vs ls H104 E104 st hE
    have f105 : w35 = false := bf st 0
    have f106 : w33 = false := bf st 1
    obtain ⟨w107, hw107⟩ : ∃ z, z = (IntKind.wrap .i64 ((i7 : Int) + 1)) := ⟨_, rfl⟩
    have nw107 : w107 = ((i7 : Int) + 1) := by
     rw [hw107]
     rw [show (IntKind.wrap .i64 ((i7 : Int) + 1)) = (i7 : Int) + 1 from wrap_i64 om om]
    rw [hw33] at f106
    exact absurd f25 (of_decide_eq_false f106)
  ·
   intro vs ls H114 E114 st hE
   have f115 : ¬ (0 < (i7 : Int)) := df st 0
   have f116 : ¬ (1000000000 < v19_0) := df st 1
   have f117 : ¬ (v19_0 < 0) := df st 2
   have hlti7 : i7 < ms.length := by omega
   refine res_next (sl := [(0, S)]) (ti := 3) (i := i7) (Inv := fun i => ∀ j, j < i → feedAt ms j = true) kr st.inn hE hlti7 kr (w := (IntKind.wrap .i64 ((i7 : Int) + 1))) kr (wrap64 om) (Grew.trans g18 (gk st)) ?_
   have tm19 : timeR (ms.getD i7 []) = v19_0 := by rw [he19]; rfl
   refine upTo hIi7 (decide_eq_true ⟨⟨by omega, by omega⟩, fun h9 => ?_⟩)
   exfalso; omega
  ·
   intro vs ls H118 E118 st hE
   have f119 : v19_0 < 0 := dt st 0
   refine res_ret kr (end_flat st.inn hE (.inr rfl) (a := .bool false) kr (Grew.trans g17 (gk st)) rfl ⟨?_, rfl⟩)
   have tm19 : timeR (ms.getD i7 []) = v19_0 := by rw [he19]; rfl
   have hf9 : feedAt ms i7 = false := decide_eq_false (fun hh => by have h7 := hh.1.1; have h8 := hh.1.2; omega)
   unfold okFeed; rw [allB_at hlt19 hf9, Bool.and_false]
 ·
  intro vs ls H120 E120 st hE
  have f121 : ¬ ((i7 : Int) < (ms.length : Int)) := df st 0
  have B4 := es st hE [(3, .int .i64 (i7 : Int)), (0, S), (5, S), (4, .int .i64 (i7 : Int)), (6, .int .i64 (ms.length : Int))]
  obtain ⟨w127, hw127⟩ : ∃ z, z = (decide ((i7 : Int) < (ms.length : Int))) := ⟨_, rfl⟩
  have b128 : E120 7 = .bool w127 := by rw [hw127]; exact eo st hE 7 _
  have g129 : Grew Hi7 H120 := (gk st)
  have g130 := Grew.trans g8 g129
  refine res_exit (id := 0) kr ?_
  have q132 := q9.app (kL : KdsL [.bool, KI] [.bool w127, .int .i64 (ms.length : Int)])
  refine rD 0 0 [(.len (n1 0), nI 4)] [] [(3, nI 1), (0, n1 0), (5, n1 0), (4, nI 1), (6, nI 2), (7, nB 3)] q132 (.cons (⟨_, _, (dE q132), (dE q132), slLen hS⟩) .nil) (sc B4 (.cons b128 .nil)) ?_
  refine all1 kr fun vs ls H133 E133 st hE => ?_
  refine rf st hE (.bool (!(decide (256 < (ms.length : Int))))) (Grew.trans g130 (gk st)) ?_
  unfold okFeed; rw [allB_true (fun j hj => hIi7 j om), Bool.and_true]
  congr 1; first | rfl | (rw [decide_eq_decide]; omega) | (rw [← decide_not, decide_eq_decide]; omega)
end Go.Proofs.Ytnleibiniajbnaa
