/- Contracts: centres of valid maps, by both. -/
import Derived.Test.YtgjhjemmddojfaaTBet
import Derived.Test.YtgjhjemmddojfaaTLawValidMap
set_option linter.unusedVariables false
set_option linter.unusedSimpArgs false
namespace Go.Proofs.Ytgjhjemmddojfaa
open Go.Ab
set_option maxRecDepth 100000
set_option maxHeartbeats 1000000
attribute [local irreducible] Res
structure CS where
  a : Option Nat
  b : Option Nat
  c : Option Nat
  w : Option Nat
def cenS (s : CS) (i : Nat) : List AV → CS
 | [_, _, _, .flt _ a, .flt _ b, .flt _ c, .flt _ w, _, _] => if i = 0 then ⟨fop .mul .f32 w a, fop .mul .f32 w b, fop .mul .f32 w c, fop .add .f32 s.w w⟩ else ⟨fop .add .f32 s.a (fop .mul .f32 w a), fop .add .f32 s.b (fop .mul .f32 w b), fop .add .f32 s.c (fop .mul .f32 w c), fop .add .f32 s.w w⟩
 | _ => s
def cenT (ms : List (List AV)) : Nat → CS
 | 0 => ⟨some 0, some 0, some 0, some 0⟩
 | k + 1 => cenS (cenT ms k) k (ms.getD k [])
def CS.ok (s : CS) : Prop := fOk .f32 s.a ∧ fOk .f32 s.b ∧ fOk .f32 s.c ∧ fOk .f32 s.w
theorem zero_ok32 : fOk .f32 (some 0) := by
 intro b hb; cases hb; exact ⟨by decide, by decide +kernel⟩
theorem cenS_ok {s : CS} (h : s.ok) (i : Nat) (m : List AV) : (cenS s i m).ok := by
 unfold cenS
 split
 ·
  split
  ·
   exact ⟨fop_ok, fop_ok, fop_ok, fop_ok⟩
  ·
   exact ⟨fop_ok, fop_ok, fop_ok, fop_ok⟩
 ·
  exact h
theorem cenT_ok (ms : List (List AV)) : ∀ k, (cenT ms k).ok
 | 0 => ⟨zero_ok32, zero_ok32, zero_ok32, zero_ok32⟩
 | k + 1 => cenS_ok (cenT_ok ms k) k _
theorem cenS_0 (s : CS) {i : Nat} (h : i = 0) (v0 v1 v2 : AV) (a b c w : Option Nat) (v7 v8 : AV) : cenS s i [v0, v1, v2, .flt .f32 a, .flt .f32 b, .flt .f32 c, .flt .f32 w, v7, v8] = ⟨fop .mul .f32 w a, fop .mul .f32 w b, fop .mul .f32 w c, fop .add .f32 s.w w⟩ := if_pos h
theorem cenS_1 (s : CS) {i : Nat} (h : ¬ i = 0) (v0 v1 v2 : AV) (a b c w : Option Nat) (v7 v8 : AV) : cenS s i [v0, v1, v2, .flt .f32 a, .flt .f32 b, .flt .f32 c, .flt .f32 w, v7, v8] = ⟨fop .add .f32 s.a (fop .mul .f32 w a), fop .add .f32 s.b (fop .mul .f32 w b), fop .add .f32 s.c (fop .mul .f32 w c), fop .add .f32 s.w w⟩ := if_neg h
open Classical in
noncomputable def centreF (x : Option Nat) (ms : List (List AV)) : List AV × Int :=
 if okMap x ms = true then (if ms.length = 0 then ([.flt .f32 (some 0), .flt .f32 (some 0), .flt .f32 (some 0)], 6) else ([.flt .f32 (fop .quo .f32 (cenT ms ms.length).a (cenT ms ms.length).w), .flt .f32 (fop .quo .f32 (cenT ms ms.length).b (cenT ms ms.length).w), .flt .f32 (fop .quo .f32 (cenT ms ms.length).c (cenT ms ms.length).w)], 0)) else ([.flt .f32 (some 0), .flt .f32 (some 0), .flt .f32 (some 0)], 1)
theorem k_spec_CentreOf (H : AHeap) (x : Option Nat) (hx : fOk .f32 x) (ms : List (List AV)) (hr : Recs KM ms) (S : AV) (hS : SlL H 9 ms S) (mxms : ms.length ≤ 1048576) : APure Try.prog 39 [.agg [.flt .f32 x, S]] H (.tuple [.agg (centreF x ms).1, .int .i64 (centreF x ms).2]) := by
 refine res_start h_spec_CentreOf (by simp) ?_
 have q1 : KdsL [KF, .one] [.flt .f32 x, S] := .cons ⟨_, rfl, hx⟩ (.cons (slOne hS) .nil)
 refine run_mc (φ := φ0) (pm := pmR 0 [] 0) 20 (ws := []) (env := [(0, .agg [nF 0, n1 1])]) q1 .nil (sepOk_ro rfl) .nil (eC q1 (.cons (t := 0) rfl .nil)) tb_ok ap_ok ?_
 refine all1 (by kernel_rfl) ?_
 intro vs ls H2 E2 st hE
 obtain ⟨p3, e4, r5, n6⟩ := ptr_of st.inn hE 1 0 (by kernel_rfl) (ds := [.flt .f32 x, S]) (by kernel_rfl)
 have op3 : H.next ≤ p3 := Nat.le_trans (Nat.le_refl _) (n6 (Nat.le_of_ble_eq_true rfl))
 obtain ⟨p7, e8, r9, n10⟩ := ptr_of st.inn hE 2 1 (by kernel_rfl) (ds := [.flt .f32 (some 0), .flt .f32 (some 0), .flt .f32 (some 0)]) (by kernel_rfl)
 have op7 : H.next ≤ p7 := Nat.le_trans (Nat.le_refl _) (n10 (Nat.le_of_ble_eq_true rfl))
 have ne11 : Apart p3 p7 := ⟨ptr_ne st.inn hE 1 0 2 1 (by kernel_rfl) (by kernel_rfl) (cs := [.nd 0 (.flt .f32), .nd 1 .one]) (by kernel_rfl) (by decide) e4 e8⟩
 have g12 : Grew H H2 := (gk st)
 have g13 : Grew H H2 := Grew.trans (Grew.refl _) g12
 clear st hE vs ls
 refine res_call (d := (some 11)) (f := 72) (args := [.tmp 1]) (by kernel_rfl) (R := fun z H' => z = .bool (okMap x ms) ∧ H' = H2) ?_ ?_
 ·
  show ACalls _ _ [E2 1] _ _
  rw [e4]
  exact k_l05Ok H2 p3 x hx S true ms hr r5 (hS.grew g13) (mx40 mxms)
 rintro z H2 ⟨rfl, rfl⟩
 have q14 := q1.app (.cons ⟨_, rfl⟩ (.cons ⟨_, rfl⟩ .nil) : KdsL [.bool, KI] [.bool (okMap x ms), .int .i64 (ms.length : Int)])
 refine run_mc (φ := φ0) (pm := pmR 1 [(.len (n1 1), nI 3)] 0) 20 (ws := [⟨p3, 0, [nF 0, n1 1], false⟩, ⟨p7, 0, [.lit (.flt .f32 (some 0)), .lit (.flt .f32 (some 0)), .lit (.flt .f32 (some 0))], true⟩]) (env := [(1, .ptr 0 0), (2, .ptr 1 0), (11, nB 2)]) q14 (.cons (wR r5 q14) (.cons (wO r9 q14) .nil)) (sepD (by repeat (first | exact .nil | refine .cons (by first | assumption | exact Apart.symm (by assumption)) ?_))) (.cons (⟨_, _, (dE q14), (dE q14), slLen hS⟩) .nil) (eC q14 (.cons (put_ne rfl e4) (.cons (put_ne rfl e8) (.cons put_same .nil)))) tb_ok ap_ok ?_
 refine all3 (by kernel_rfl) ?_ ?_ ?_
 ·
  intro vs ls H15 E15 st hE
  have f16 : (okMap x ms) = false := bf st 0
  refine res_ex (by kernel_rfl) (end_flat st.inn hE (.inr rfl) (a := .tuple [.agg [.flt .f32 (some 0), .flt .f32 (some 0), .flt .f32 (some 0)], .int .i64 1]) (by kernel_rfl) (grew_own g13 (st.inn.kept) ⟨op7, trivial⟩) rfl ⟨?_, rfl⟩)
  unfold centreF; rw [if_neg (by rw [f16]; decide)]
 ·
  intro vs ls H17 E17 st hE
  have f18 : (ms.length : Int) = 0 := dt st 0
  have f19 : (okMap x ms) = true := bf st 1
  refine res_ex (by kernel_rfl) (end_flat st.inn hE (.inr rfl) (a := .tuple [.agg [.flt .f32 (some 0), .flt .f32 (some 0), .flt .f32 (some 0)], .int .i64 6]) (by kernel_rfl) (grew_own g13 (st.inn.kept) ⟨op7, trivial⟩) rfl ⟨?_, rfl⟩)
  unfold centreF; rw [if_pos f19, if_pos (by omega)]
 ·
  intro vs ls H20 E20 st hE
  have f21 : ¬ ((ms.length : Int) = 0) := df st 0
  have f22 : (okMap x ms) = true := bf st 1
  obtain ⟨p23, e24, r25, n26⟩ := ptr_of st.inn hE 4 2 (by kernel_rfl) (ds := [.flt .f32 (some 0), .flt .f32 (some 0), .flt .f32 (some 0)]) (by kernel_rfl)
  have op23 : H.next ≤ p23 := Nat.le_trans g13.next (n26 (Nat.le_of_ble_eq_true rfl))
  have ne27 := apn r5 (n26 (Nat.le_of_ble_eq_true rfl))
  have ne28 := apn r9 (n26 (Nat.le_of_ble_eq_true rfl))
  have b29 := eo st hE 6 (.int .i64 0)
  have b30 := eo st hE 1 (.ptr p3 0)
  have b31 := eo st hE 5 (.flt .f32 (some 0))
  have b32 := eo st hE 2 (.ptr p7 0)
  have g33 : Grew H2 H20 := (gk st)
  have g34 : Grew H H20 := Grew.trans g13 g33
  have r35 := g33.at r5
  have r36 := g33.at r9
  clear st hE vs ls
  refine res_loop (by kernel_rfl) (fun z E H' => ∃ (i : Nat), z + i = ms.length ∧ E 1 = .ptr p3 0 ∧ E 4 = .ptr p23 0 ∧ E 2 = .ptr p7 0 ∧ E 6 = .int .i64 (i : Int) ∧ E 5 = .flt .f32 (cenT ms i).w ∧ Grew H H' ∧ H'.get p3 = some (.row [.flt .f32 x, S] true) ∧ H'.get p23 = some (.row [.flt .f32 (cenT ms i).a, .flt .f32 (cenT ms i).b, .flt .f32 (cenT ms i).c] true) ∧ H'.get p7 = some (.row [.flt .f32 (some 0), .flt .f32 (some 0), .flt .f32 (some 0)] true)) (ms.length) ⟨0, by omega, b30, e24, b32, b29, b31, g34, r35, r25, r36⟩ ?_
  rintro z37 Ei37 Hi37 ⟨i37, hz37, c37_1, c37_4, c37_2, ci37, cv37_5, gt37, r37_0, r37_1, r37_2⟩
  have q38 := q14.app (.cons ⟨_, rfl⟩ (.cons ⟨_, rfl, (cenT_ok ms i37).2.2.2⟩ (.cons ⟨_, rfl, (cenT_ok ms i37).1⟩ (.cons ⟨_, rfl, (cenT_ok ms i37).2.1⟩ (.cons ⟨_, rfl, (cenT_ok ms i37).2.2.1⟩ (.cons ⟨_, rfl⟩ .nil))))) : KdsL [KI, KF, KF, KF, KF, KI] [.int .i64 (i37 : Int), .flt .f32 (cenT ms i37).w, .flt .f32 (cenT ms i37).a, .flt .f32 (cenT ms i37).b, .flt .f32 (cenT ms i37).c, .int .i64 (ms.length : Int)])
  refine run_mc (φ := φ0) (pm := pmR 2 [(.len (n1 1), nI 9)] 5) 20 (ws := [⟨p3, 0, [nF 0, n1 1], false⟩, ⟨p23, 0, [nF 6, nF 7, nF 8], false⟩, ⟨p7, 0, [.lit (.flt .f32 (some 0)), .lit (.flt .f32 (some 0)), .lit (.flt .f32 (some 0))], true⟩]) (env := [(1, .ptr 0 0), (4, .ptr 1 0), (2, .ptr 2 0), (6, nI 4), (5, nF 5)]) q38 (.cons (wR r37_0 q38) (.cons (wR r37_1 q38) (.cons (wO r37_2 q38) .nil))) (sepD (by repeat (first | exact .nil | refine .cons (by first | assumption | exact Apart.symm (by assumption)) ?_))) (.cons (⟨_, _, (dE q38), (dE q38), slLen hS⟩) .nil) (eC q38 (.cons c37_1 (.cons c37_4 (.cons c37_2 (.cons ci37 (.cons cv37_5 .nil)))))) tb_ok ap_ok ?_
  refine all2 (by kernel_rfl) ?_ ?_
  ·
   intro vs ls H39 E39 st hE
   have f40 : (i37 : Int) < (ms.length : Int) := dt st 0
   have b41 := eo st hE 28 S
   have b42 := eo st hE 29 (.int .i64 (i37 : Int))
   have b43 := eo st hE 6 (.int .i64 (i37 : Int))
   have b44 := eo st hE 4 (.ptr p23 0)
   have b45 := eo st hE 5 (.flt .f32 (cenT ms i37).w)
   have b46 := eo st hE 1 (.ptr p3 0)
   have b47 := eo st hE 2 (.ptr p7 0)
   have g48 : Grew Hi37 H39 := (gk st)
   have g49 : Grew H H39 := Grew.trans gt37 g48
   have r50 := g48.at r37_0
   have r51 := g48.at r37_1
   have r52 := g48.at r37_2
   clear st hE vs ls
   have hlt53 : i37 < ms.length := by omega
   obtain ⟨lS53, cap53, rest53, wr53, eS53, gB53⟩ := hS.isSl hlt53
   have gS53 := g49.at gB53
   have ne54 := apn gB53 op3
   have ne55 := apn gB53 op23
   have ne56 := apn gB53 op7
   obtain ⟨v53_0, v53_1, v53_2, v53_3, v53_4, v53_5, v53_6, v53_7, v53_8, hm53, ho53_3, ho53_4, ho53_5, ho53_6⟩ := partsMark (hr.get hlt53)
   have he53 : ms.getD i37 [] = [.int .i32 v53_0, .int .i32 v53_1, .int .i32 v53_2, .flt .f32 v53_3, .flt .f32 v53_4, .flt .f32 v53_5, .flt .f32 v53_6, .int .i64 v53_7, .int .i64 v53_8] := by rw [← hm53, List.getD_eq_getElem?_getD, List.getElem?_eq_getElem hlt53]; rfl
   have q57 := q38.app (.cons ⟨_, rfl⟩ (.cons ⟨_, rfl⟩ (.cons ⟨_, rfl⟩ (.cons ⟨_, rfl, ho53_3⟩ (.cons ⟨_, rfl, ho53_4⟩ (.cons ⟨_, rfl, ho53_5⟩ (.cons ⟨_, rfl, ho53_6⟩ (.cons ⟨_, rfl⟩ (.cons ⟨_, rfl⟩ .nil)))))))) : KdsL [K2, K2, K2, KF, KF, KF, KF, KI, KI] [.int .i32 v53_0, .int .i32 v53_1, .int .i32 v53_2, .flt .f32 v53_3, .flt .f32 v53_4, .flt .f32 v53_5, .flt .f32 v53_6, .int .i64 v53_7, .int .i64 v53_8])
   refine run_mc (φ := φ0) (pm := pmR 2 [] 5) 20 (ws := [⟨p3, 0, [nF 0, n1 1], false⟩, ⟨lS53, (i37 * 9), [n2 10, n2 11, n2 12, nF 13, nF 14, nF 15, nF 16, nI 17, nI 18], false⟩, ⟨p7, 0, [.lit (.flt .f32 (some 0)), .lit (.flt .f32 (some 0)), .lit (.flt .f32 (some 0))], true⟩, ⟨p23, 0, [nF 6, nF 7, nF 8], true⟩]) (env := [(28, n1 1), (29, nI 4), (6, nI 4), (4, .ptr 3 0), (5, nF 5), (1, .ptr 0 0), (2, .ptr 2 0)]) q57 (.cons (wR r50 q57) (.cons (win_elem hr gS53 hlt53 rfl (by rw [hm53]; exact (dL q57))) (.cons (wO r52 q57) (.cons (wO r51 q57) .nil)))) (sepD (by repeat (first | exact .nil | refine .cons (by first | assumption | exact Apart.symm (by assumption)) ?_))) .nil (eC q57 (.cons b41 (.cons b42 (.cons b43 (.cons b44 (.cons b45 (.cons b46 (.cons b47 .nil)))))))) tb_ok ap_ok ?_
   refine all1 (by kernel_rfl) ?_
   intro vs ls H58 E58 st hE
   have b59 := eo st hE 28 S
   have b60 := eo st hE 29 (.int .i64 (i37 : Int))
   have b61 := eo st hE 6 (.int .i64 (i37 : Int))
   have b62 := eo st hE 4 (.ptr p23 0)
   have b63 := eo st hE 5 (.flt .f32 (cenT ms i37).w)
   have b64 := eo st hE 1 (.ptr p3 0)
   have b65 := eo st hE 2 (.ptr p7 0)
   have g66 : Grew H39 H58 := (gk st)
   have g67 : Grew H H58 := Grew.trans g49 g66
   have r68 := g66.at r50
   have r70 := g66.at r52
   have r71 := g66.at r51
   clear st hE vs ls
   have hlt72 : i37 < ms.length := by omega
   obtain ⟨lS72, cap72, rest72, wr72, eS72, gB72⟩ := hS.isSl hlt72
   have gS72 := g67.at gB72
   have ne73 := apn gB72 op3
   have ne74 := apn gB72 op7
   have ne75 := apn gB72 op23
   obtain ⟨v72_0, v72_1, v72_2, v72_3, v72_4, v72_5, v72_6, v72_7, v72_8, hm72, ho72_3, ho72_4, ho72_5, ho72_6⟩ := partsMark (hr.get hlt72)
   have he72 : ms.getD i37 [] = [.int .i32 v72_0, .int .i32 v72_1, .int .i32 v72_2, .flt .f32 v72_3, .flt .f32 v72_4, .flt .f32 v72_5, .flt .f32 v72_6, .int .i64 v72_7, .int .i64 v72_8] := by rw [← hm72, List.getD_eq_getElem?_getD, List.getElem?_eq_getElem hlt72]; rfl
   have q76 := q57.app (.cons ⟨_, rfl⟩ (.cons ⟨_, rfl⟩ (.cons ⟨_, rfl⟩ (.cons ⟨_, rfl, ho72_3⟩ (.cons ⟨_, rfl, ho72_4⟩ (.cons ⟨_, rfl, ho72_5⟩ (.cons ⟨_, rfl, ho72_6⟩ (.cons ⟨_, rfl⟩ (.cons ⟨_, rfl⟩ .nil)))))))) : KdsL [K2, K2, K2, KF, KF, KF, KF, KI, KI] [.int .i32 v72_0, .int .i32 v72_1, .int .i32 v72_2, .flt .f32 v72_3, .flt .f32 v72_4, .flt .f32 v72_5, .flt .f32 v72_6, .int .i64 v72_7, .int .i64 v72_8])
   refine run_mc (φ := φ0) (pm := pmR 2 [(.ia 9 (n1 1) (nI 4), .ptr 1 0)] 5) 20 (ws := [⟨p3, 0, [nF 0, n1 1], false⟩, ⟨lS72, (i37 * 9), [n2 19, n2 20, n2 21, nF 22, nF 23, nF 24, nF 25, nI 26, nI 27], false⟩, ⟨p7, 0, [.lit (.flt .f32 (some 0)), .lit (.flt .f32 (some 0)), .lit (.flt .f32 (some 0))], true⟩, ⟨p23, 0, [nF 6, nF 7, nF 8], true⟩]) (env := [(28, n1 1), (29, nI 4), (6, nI 4), (4, .ptr 3 0), (5, nF 5), (1, .ptr 0 0), (2, .ptr 2 0)]) q76 (.cons (wR r68 q76) (.cons (win_elem hr gS72 hlt72 rfl (by rw [hm72]; exact (dL q76))) (.cons (wO r70 q76) (.cons (wO r71 q76) .nil)))) (sepD (by repeat (first | exact .nil | refine .cons (by first | assumption | exact Apart.symm (by assumption)) ?_))) (.cons (rule_iaS (k := i37) (dE q76) eS72 (dE q76) hlt72 rfl) .nil) (eC q76 (.cons b59 (.cons b60 (.cons b61 (.cons b62 (.cons b63 (.cons b64 (.cons b65 .nil)))))))) tb_ok ap_ok ?_
   refine all2 (by kernel_rfl) ?_ ?_
   ·
    intro vs ls H77 E77 st hE
    have f78 : (i37 : Int) = 0 := dt st 0
    have r79 : H77.get p7 = some (.row [.flt .f32 (some 0), .flt .f32 (some 0), .flt .f32 (some 0)] true) := row_whole st.inn 2 (l := p7) (b := 0) rfl (by kernel_rfl)
    obtain ⟨w80, hw80⟩ : ∃ z, z = (fop .mul .f32 v72_6 v72_3) := ⟨_, rfl⟩
    obtain ⟨w81, hw81⟩ : ∃ z, z = (fop .mul .f32 v72_6 v72_4) := ⟨_, rfl⟩
    obtain ⟨w82, hw82⟩ : ∃ z, z = (fop .mul .f32 v72_6 v72_5) := ⟨_, rfl⟩
    have r83 : H77.get p23 = some (.row [.flt .f32 (fop .mul .f32 v72_6 v72_3), .flt .f32 (fop .mul .f32 v72_6 v72_4), .flt .f32 (fop .mul .f32 v72_6 v72_5)] true) := row_whole st.inn 3 (l := p23) (b := 0) rfl (by kernel_rfl)
    obtain ⟨w84, hw84⟩ : ∃ z, z = (IntKind.wrap .i64 ((i37 : Int) + 1)) := ⟨_, rfl⟩
    have b85 : E77 6 = .int .i64 w84 := by rw [hw84]; exact eo st hE 6 _
    have b86 := eo st hE 1 (.ptr p3 0)
    have b87 := eo st hE 4 (.ptr p23 0)
    have b88 := eo st hE 2 (.ptr p7 0)
    obtain ⟨w89, hw89⟩ : ∃ z, z = (fop .add .f32 (cenT ms i37).w v72_6) := ⟨_, rfl⟩
    have b90 : E77 5 = .flt .f32 w89 := by rw [hw89]; exact eo st hE 5 _
    have g92 : Grew H H77 := grew_own g67 st.inn.kept ⟨op7, ⟨op23, trivial⟩⟩
    have r93 := kept_at st.inn.kept r68 ⟨by first | assumption | exact Apart.symm (by assumption), ⟨by first | assumption | exact Apart.symm (by assumption), trivial⟩⟩
    clear st hE vs ls
    have hz9 : z37 - 1 < z37 := by omega
    have hy9 : z37 - 1 + (i37 + 1) = ms.length := by omega
    have hi9 : E77 6 = .int .i64 ((i37 + 1 : Nat) : Int) := by rw [b85, hw84, wrap64 (by omega)]
    have hn9 : cenT ms (i37 + 1) = ⟨w80, w81, w82, w89⟩ := by
     show cenS _ _ _ = _
     rw [he72, cenS_0 _ (by omega)]
     simp only [hw80, hw81, hw82, hw84, hw89]
    exact res_norm (by kernel_rfl) ⟨z37 - 1, hz9, i37 + 1, hy9, b86, b87, b88, hi9, (by rw [hn9]; exact b90), g92, r93, (by rw [hn9, hw80, hw81, hw82]; exact r83), r79⟩
   ·
    intro vs ls H95 E95 st hE
    have f96 : ¬ ((i37 : Int) = 0) := df st 0
    have r97 : H95.get p7 = some (.row [.flt .f32 (some 0), .flt .f32 (some 0), .flt .f32 (some 0)] true) := row_whole st.inn 2 (l := p7) (b := 0) rfl (by kernel_rfl)
    obtain ⟨w98, hw98⟩ : ∃ z, z = (fop .add .f32 (cenT ms i37).a (fop .mul .f32 v72_6 v72_3)) := ⟨_, rfl⟩
    obtain ⟨w99, hw99⟩ : ∃ z, z = (fop .add .f32 (cenT ms i37).b (fop .mul .f32 v72_6 v72_4)) := ⟨_, rfl⟩
    obtain ⟨w100, hw100⟩ : ∃ z, z = (fop .add .f32 (cenT ms i37).c (fop .mul .f32 v72_6 v72_5)) := ⟨_, rfl⟩
    have r101 : H95.get p23 = some (.row [.flt .f32 (fop .add .f32 (cenT ms i37).a (fop .mul .f32 v72_6 v72_3)), .flt .f32 (fop .add .f32 (cenT ms i37).b (fop .mul .f32 v72_6 v72_4)), .flt .f32 (fop .add .f32 (cenT ms i37).c (fop .mul .f32 v72_6 v72_5))] true) := row_whole st.inn 3 (l := p23) (b := 0) rfl (by kernel_rfl)
    obtain ⟨w102, hw102⟩ : ∃ z, z = (IntKind.wrap .i64 ((i37 : Int) + 1)) := ⟨_, rfl⟩
    have b103 : E95 6 = .int .i64 w102 := by rw [hw102]; exact eo st hE 6 _
    have b104 := eo st hE 1 (.ptr p3 0)
    have b105 := eo st hE 4 (.ptr p23 0)
    have b106 := eo st hE 2 (.ptr p7 0)
    obtain ⟨w107, hw107⟩ : ∃ z, z = (fop .add .f32 (cenT ms i37).w v72_6) := ⟨_, rfl⟩
    have b108 : E95 5 = .flt .f32 w107 := by rw [hw107]; exact eo st hE 5 _
    have g110 : Grew H H95 := grew_own g67 st.inn.kept ⟨op7, ⟨op23, trivial⟩⟩
    have r111 := kept_at st.inn.kept r68 ⟨by first | assumption | exact Apart.symm (by assumption), ⟨by first | assumption | exact Apart.symm (by assumption), trivial⟩⟩
    clear st hE vs ls
    have hz9 : z37 - 1 < z37 := by omega
    have hy9 : z37 - 1 + (i37 + 1) = ms.length := by omega
    have hi9 : E95 6 = .int .i64 ((i37 + 1 : Nat) : Int) := by rw [b103, hw102, wrap64 (by omega)]
    have hn9 : cenT ms (i37 + 1) = ⟨w98, w99, w100, w107⟩ := by
     show cenS _ _ _ = _
     rw [he72, cenS_1 _ (by omega)]
     simp only [hw98, hw99, hw100, hw102, hw107]
    exact res_norm (by kernel_rfl) ⟨z37 - 1, hz9, i37 + 1, hy9, b104, b105, b106, hi9, (by rw [hn9]; exact b108), g110, r111, (by rw [hn9, hw98, hw99, hw100]; exact r101), r97⟩
  ·
   intro vs ls H113 E113 st hE
   have f114 : ¬ ((i37 : Int) < (ms.length : Int)) := df st 0
   have b115 := eo st hE 6 (.int .i64 (i37 : Int))
   have b116 := eo st hE 1 (.ptr p3 0)
   have b117 := eo st hE 21 (.ptr p3 1)
   have b118 := eo st hE 22 S
   have b119 := eo st hE 20 (.int .i64 (i37 : Int))
   have b120 := eo st hE 23 (.int .i64 (ms.length : Int))
   obtain ⟨w121, hw121⟩ : ∃ z, z = (decide ((i37 : Int) < (ms.length : Int))) := ⟨_, rfl⟩
   have b122 : E113 24 = .bool w121 := by rw [hw121]; exact eo st hE 24 _
   have b123 := eo st hE 4 (.ptr p23 0)
   have b124 := eo st hE 5 (.flt .f32 (cenT ms i37).w)
   have b125 := eo st hE 2 (.ptr p7 0)
   have g126 : Grew Hi37 H113 := (gk st)
   have g127 : Grew H H113 := Grew.trans gt37 g126
   have r128 := g126.at r37_0
   have r129 := g126.at r37_1
   have r130 := g126.at r37_2
   clear st hE vs ls
   refine res_exit (id := 0) (by kernel_rfl) ?_
   have q131 := q38.app (.cons ⟨_, rfl⟩ .nil : KdsL [.bool] [.bool w121])
   refine run_mc (φ := φ0) (pm := pmR 1 [] 5) 20 (ws := [⟨p3, 0, [nF 0, n1 1], false⟩, ⟨p7, 0, [.lit (.flt .f32 (some 0)), .lit (.flt .f32 (some 0)), .lit (.flt .f32 (some 0))], true⟩, ⟨p23, 0, [nF 6, nF 7, nF 8], true⟩]) (env := [(6, nI 4), (1, .ptr 0 0), (21, .ptr 0 1), (22, n1 1), (20, nI 4), (23, nI 9), (24, nB 10), (4, .ptr 2 0), (5, nF 5), (2, .ptr 1 0)]) q131 (.cons (wR r128 q131) (.cons (wO r130 q131) (.cons (wO r129 q131) .nil))) (sepD (by repeat (first | exact .nil | refine .cons (by first | assumption | exact Apart.symm (by assumption)) ?_))) .nil (eC q131 (.cons b115 (.cons b116 (.cons b117 (.cons b118 (.cons b119 (.cons b120 (.cons b122 (.cons b123 (.cons b124 (.cons b125 .nil))))))))))) tb_ok ap_ok ?_
   refine all1 (by kernel_rfl) ?_
   intro vs ls H132 E132 st hE
   refine res_ex (by kernel_rfl) (end_flat st.inn hE (.inr rfl) (a := .tuple [.agg [.flt .f32 (fop .quo .f32 (cenT ms i37).a (cenT ms i37).w), .flt .f32 (fop .quo .f32 (cenT ms i37).b (cenT ms i37).w), .flt .f32 (fop .quo .f32 (cenT ms i37).c (cenT ms i37).w)], .int .i64 0]) (by kernel_rfl) (grew_own g127 (st.inn.kept) ⟨op7, ⟨op23, trivial⟩⟩) rfl ⟨?_, rfl⟩)
   unfold centreF; rw [if_pos f22, if_neg (by omega), show ms.length = i37 by omega]
end Go.Proofs.Ytgjhjemmddojfaa
