/- Contracts: grids that are empty; comparisons and marks of grids. -/
import Derived.Test.YtnleibiniajbnaaTHeldB
import Derived.Test.YtnleibiniajbnaaSxE
set_option linter.unusedVariables false
set_option linter.unusedSimpArgs false
namespace Go.Proofs.Ytnleibiniajbnaa
open Go.Ab
set_option maxRecDepth 100000
set_option maxHeartbeats 1000000
attribute [local irreducible] Res
theorem k_eqByteS (H : AHeap) (ms : List (List AV)) (hr : Recs KB ms) (S S' : AV) (hS : SlL H 1 ms S) (hS' : SlL H 1 ms S') (hmx : ms.length < 2 ^ 40) : APure Try.prog 36 [S, S'] H (.bool true) := by
 refine res_start h_laws_eqByteS (by simp) ?_
 have q1 : KdsL [.one, .one, KI, KI] [S, S', .int .i64 (ms.length : Int), .int .i64 (ms.length : Int)] := .cons (slOne hS) (.cons (slOne hS') (.cons kA (.cons kA .nil)))
 refine rD 0 0 [(.len (n1 0), nI 2), (.len (n1 1), nI 3)] [] [(0, n1 0), (1, n1 1)] q1 (.cons (⟨_, _, (dE q1), (dE q1), slLen hS⟩) (.cons (⟨_, _, (dE q1), (dE q1), slLen hS'⟩) .nil)) (.cons (t := 0) rfl (.cons (t := 1) rfl .nil)) ?_
 refine all2 kr ?_ ?_
 ·
  intro vs ls H2 E2 st hE
  have f3 : ¬ ((ms.length : Int) = (ms.length : Int)) := df st 0
  exact absurd rfl f3
 ·
  intro vs ls H4 E4 st hE
  have f5 : (ms.length : Int) = (ms.length : Int) := dt st 0
  have b6 := eo st hE 5 (.int .i64 0)
  have b7 := eo st hE 0 S
  have b8 := eo st hE 1 (S')
  have g9 : Grew H H4 := (gk st)
  have g10 : Grew H H4 := Grew.trans (Grew.refl _) g9
  refine res_scan kr [(0, S), (1, S')] 5 ms.length (fun i => True) (.cons b7 (.cons b8 .nil)) b6 (Grew.refl _) trivial ?_
  intro i11 hli11 hIi11 Ei11 Hi11 hsi11 hci11 hgi11
  have g12 := Grew.trans g10 hgi11
  have q13 := q1.app (kL : KdsL [KI, KI] [.int .i64 (i11 : Int), .int .i64 (ms.length : Int)])
  refine rD 0 0 [(.len (n1 0), nI 5)] [] [(0, n1 0), (1, n1 1), (5, nI 4)] q13 (.cons (⟨_, _, (dE q13), (dE q13), slLen hS⟩) .nil) (.cons (hsi11.at 0 rfl) (.cons (hsi11.at 1 rfl) (.cons hci11 .nil))) ?_
  refine all2 kr ?_ ?_
  ·
   intro vs ls H14 E14 st hE
   have f15 : (i11 : Int) < (ms.length : Int) := dt st 0
   have B1 := es st hE [(17, S), (18, .int .i64 (i11 : Int)), (1, S'), (5, .int .i64 (i11 : Int)), (0, S)]
   have g21 : Grew Hi11 H14 := (gk st)
   have g22 := Grew.trans g12 g21
   have g23 := Grew.trans hgi11 g21
   have hlt24 : i11 < ms.length := by omega
   obtain ⟨lS24, cap24, rest24, wr24, eS24, gB24⟩ := hS.isSl hlt24
   have gS24 := g22.at gB24
   obtain ⟨v24_0, hm24⟩ := partsByte (hr.get hlt24)
   have he24 : ms.getD i11 [] = [.int .u8 v24_0] := by rw [← hm24, List.getD_eq_getElem?_getD, List.getElem?_eq_getElem hlt24]; rfl
   have q25 := q13.app (kL : KdsL [.int .u8] [.int .u8 v24_0])
   refine run_mc (φ := φ0) (pm := pmR 1 [(.ia 1 (n1 0) (nI 4), .ptr 0 0)] 0) 20 (ws := [⟨lS24, (i11 * 1), [.nd 6 (.int .u8)], false⟩]) (env := [(17, n1 0), (18, nI 4), (1, n1 1), (5, nI 4), (0, n1 0)]) q25 (.cons (win_elem hr gS24 hlt24 rfl (by rw [hm24]; exact (dL q25))) .nil) (sepOk_ro rfl) (.cons (rule_iaS (k := i11) (dE q25) eS24 (dE q25) hlt24 rfl) .nil) (eC q25 B1) tb_ok ap_ok ?_
   refine all1 kr fun vs ls H26 E26 st hE => ?_
   have B2 := es st hE [(21, S'), (22, .int .i64 (i11 : Int)), (20, .int .u8 v24_0), (5, .int .i64 (i11 : Int)), (0, S), (1, S')]
   have g33 : Grew H14 H26 := (gk st)
   have g34 := Grew.trans g22 g33
   have g35 := Grew.trans g23 g33
   have hlt37 : i11 < ms.length := by omega
   obtain ⟨lS37, cap37, rest37, wr37, eS37, gB37⟩ := hS'.isSl hlt37
   have gS37 := g34.at gB37
   obtain ⟨v37_0, hm37⟩ := partsByte (hr.get hlt37)
   have he37 : ms.getD i11 [] = [.int .u8 v37_0] := by rw [← hm37, List.getD_eq_getElem?_getD, List.getElem?_eq_getElem hlt37]; rfl
   have q38 := q25.app (kL : KdsL [.int .u8] [.int .u8 v37_0])
   refine run_mc (φ := φ0) (pm := pmR 1 [(.ia 1 (n1 1) (nI 4), .ptr 0 0)] 0) 20 (ws := [⟨lS37, (i11 * 1), [.nd 7 (.int .u8)], false⟩]) (env := [(21, n1 1), (22, nI 4), (20, .nd 6 (.int .u8)), (5, nI 4), (0, n1 0), (1, n1 1)]) q38 (.cons (win_elem hr gS37 hlt37 rfl (by rw [hm37]; exact (dL q38))) .nil) (sepOk_ro rfl) (.cons (rule_iaS (k := i11) (dE q38) eS37 (dE q38) hlt37 rfl) .nil) (eC q38 B2) tb_ok ap_ok ?_
   refine all2 kr ?_ ?_
   ·
    intro vs ls H39 E39 st hE
    have f40 : ¬ (v24_0 = v37_0) := df st 0
    exact absurd (show v24_0 = v37_0 by have := he24.symm.trans he37; simpa using this) f40
   ·
    intro vs ls H41 E41 st hE
    have f42 : v24_0 = v37_0 := dt st 0
    have hlti11 : i11 < ms.length := by omega
    refine res_next (sl := [(0, S), (1, S')]) (ti := 5) (i := i11) (Inv := fun i => True) kr st.inn hE hlti11 kr (w := (IntKind.wrap .i64 ((i11 : Int) + 1))) kr (wrap64 om) (Grew.trans g35 (gk st)) ?_
    trivial
  ·
   intro vs ls H43 E43 st hE
   have f44 : ¬ ((i11 : Int) < (ms.length : Int)) := df st 0
   obtain ⟨w50, hw50⟩ : ∃ z, z = (decide ((i11 : Int) < (ms.length : Int))) := ⟨_, rfl⟩
   have b51 : E43 14 = .bool w50 := by rw [hw50]; exact eo st hE 14 _
   have B3 := es st hE [(5, .int .i64 (i11 : Int)), (0, S), (12, S), (11, .int .i64 (i11 : Int)), (13, .int .i64 (ms.length : Int)), (1, S')]
   have g53 : Grew Hi11 H43 := (gk st)
   have g54 := Grew.trans g12 g53
   refine res_exit (id := 0) kr ?_
   have q56 := q13.app (kL : KdsL [.bool] [.bool w50])
   refine rC 0 0 [] [(5, nI 4), (0, n1 0), (12, n1 0), (11, nI 4), (13, nI 5), (1, n1 1), (14, nB 6)] q56 (sc B3 (.cons b51 .nil)) ?_
   refine all1 kr fun vs ls H57 E57 st hE => ?_
   refine rf st hE (.bool true) (Grew.trans g54 (gk st)) ?_
   rfl
theorem w_markByteS (H : AHeap) (ms : List (List AV)) (hr : Recs KB ms) (S : AV) (hS : SlW H 1 ms S) (k : Int) (h0 : 0 ≤ k) (h1 : k ≤ 1152921504606846976) (hmax : ms.length ≤ 1048576) : ACalls Try.prog 37 [S, .int .i64 k] H fun r H' => r = .int .i64 (k + 1 * (ms.length : Int)) ∧ OnlyS S H H' ∧ SlW H' 1 (mksByte k ms.length) S := by
 cases hS with
 | @sl l n cap rest hg hn hc =>
  subst hn
  refine (k_markByteS H ms hr l cap rest hg k h0 h1 hmax).mono ?_
  rintro r H' ⟨rfl, ho, row⟩
  exact ⟨rfl, .of_only ho, .sl row (mksByte_len _ _) hc⟩
 | nil h =>
  subst h
  refine res_start h_laws_markByteS (by simp) ?_
  have q1 : KdsL [KI] [.int .i64 k] := kL
  refine rC 0 2 [] [(0, lN), (1, nI 0)] q1 (.cons (t := 0) rfl (.cons (t := 1) rfl .nil)) ?_
  refine all1 kr fun vs ls H9 E9 st hE => ?_
  have g9 : Grew H H9 := (gk st)
  exact res_ex kr (end_same st.inn hE (.inr rfl) (a := .int .i64 k) kr g9.next ⟨by simp, .of_grew g9, .nil rfl⟩)
end Go.Proofs.Ytnleibiniajbnaa
