/- Contracts: where links tell that a pose is, by both. -/
import Derived.Test.YtcmoeocemmeofaaTResD
set_option linter.unusedVariables false
set_option linter.unusedSimpArgs false
namespace Go.Proofs.Ytcmoeocemmeofaa
open Go.Ab
set_option maxRecDepth 100000
set_option maxHeartbeats 1000000
attribute [local irreducible] Res
structure TS where
  a : Option Nat
  b : Option Nat
  c : Option Nat
  w : Option Nat
  f : Bool
/-- The pose that a link tells, before its angle is taken from that of the pose. -/
noncomputable def toldP (ms : List (List AV)) (i : Int) : List AV → Option (List AV)
 | [.int _ a, .int _ b, x, y, z, _] => if i = b then some (compF (ms.getD a.toNat []) [x, y, z]) else if i = a then some (compF (ms.getD b.toNat []) (backF [x, y, z])) else none
 | _ => none
theorem toldP_link (ms : List (List AV)) (i a b : Int) (x y z w : AV) : toldP ms i [.int .i64 a, .int .i64 b, x, y, z, w] = if i = b then some (compF (ms.getD a.toNat []) [x, y, z]) else if i = a then some (compF (ms.getD b.toNat []) (backF [x, y, z])) else none := rfl
def linkW : List AV → Option Nat
 | [_, _, _, _, _, .flt _ w] => w
 | _ => none
def tellW (s : TS) (w o : Option Nat) : List AV → TS
 | [.flt _ p, .flt _ q, .flt _ r] => if s.f = true then ⟨fop .add .f32 s.a (fop .mul .f32 w p), fop .add .f32 s.b (fop .mul .f32 w q), fop .add .f32 s.c (fop .mul .f32 w (wrapF (fop .sub .f32 r o))), fop .add .f32 s.w w, true⟩
  else ⟨fop .mul .f32 w p, fop .mul .f32 w q, fop .mul .f32 w (wrapF (fop .sub .f32 r o)), w, true⟩
 | _ => s
noncomputable def toldS (ms : List (List AV)) (i : Int) (o : Option Nat) (s : TS) (L : List AV) : TS := match toldP ms i L with
 | none => s
 | some p => tellW s (linkW L) o p
noncomputable def toldT (ms ks : List (List AV)) (i : Int) (o : Option Nat) : Nat → TS
 | 0 => ⟨some 0, some 0, some 0, some 0, false⟩
 | k + 1 => toldS ms i o (toldT ms ks i o k) (ks.getD k [])
def TS.ok (s : TS) : Prop := fOk .f32 s.a ∧ fOk .f32 s.b ∧ fOk .f32 s.c ∧ fOk .f32 s.w
theorem linkW_ok {L : List AV} (h : KdsL KL L) : fOk .f32 (linkW L) := by
 obtain ⟨a, b, x, y, z, w, rfl, _, _, _, ow⟩ := partsLink h
 exact ow
theorem tellW_ok {s : TS} (h : s.ok) {w o : Option Nat} (hw : fOk .f32 w) (p : List AV) : (tellW s w o p).ok := by
 unfold tellW
 split
 ·
  split
  ·
   exact ⟨fop_ok, fop_ok, fop_ok, fop_ok⟩
  ·
   exact ⟨fop_ok, fop_ok, fop_ok, hw⟩
 ·
  exact h
theorem toldT_ok (ms : List (List AV)) {ks : List (List AV)} (hrk : Recs KL ks) (i : Int) (o : Option Nat) : ∀ k, k ≤ ks.length → (toldT ms ks i o k).ok
 | 0, _ => ⟨zero_ok32, zero_ok32, zero_ok32, zero_ok32⟩
 | k + 1, hk => by
  have hk : k < ks.length := hk
  have ih := toldT_ok ms hrk i o k (Nat.le_of_lt hk)
  unfold toldT toldS
  split
  ·
   exact ih
  ·
   refine tellW_ok ih (linkW_ok ?_) _
   have e : ks.getD k [] = ks[k] := by simp [List.getD_eq_getElem?_getD, hk]
   rw [e]; exact hrk.get hk
noncomputable def headA : List AV → Option Nat
 | [_, _, .flt _ z] => z
 | _ => none
noncomputable def toldF (ms ks : List (List AV)) (i : Int) : List AV × Bool :=
 let s := toldT ms ks i (headA (ms.getD i.toNat [])) ks.length
 ([.flt .f32 (fop .quo .f32 s.a s.w), .flt .f32 (fop .quo .f32 s.b s.w), .flt .f32 (wrapF (fop .add .f32 (headA (ms.getD i.toNat [])) (fop .quo .f32 s.c s.w)))], s.f)
theorem toldF_ok (ms ks : List (List AV)) (i : Int) : KdsL KP (toldF ms ks i).1 := .cons ⟨_, rfl, fop_ok⟩ (.cons ⟨_, rfl, fop_ok⟩ (.cons ⟨_, rfl, wrapF_ok fop_ok⟩ .nil))
theorem k_told (H : AHeap) (ms : List (List AV)) (hr : Recs KP ms) (S : AV) (hS : SlL H 3 ms S) (hmx : ms.length < 2 ^ 40) (ks : List (List AV)) (hrk : Recs KL ks) (Sk : AV) (hSk : SlL H 6 ks Sk) (hmxk : ks.length < 2 ^ 40) (hok : okG ms ks = true) (j : Nat) (hj : j < ms.length) : APure Try.prog 107 [.agg [S, Sk], .int .i64 (j : Int)] H (.tuple [.agg (toldF ms ks (j : Int)).1, .bool (toldF ms ks (j : Int)).2]) := by
 refine res_start h_impl_PoseGraph_told (by simp) ?_
 have q1 : KdsL [.one, .one, KI] [S, Sk, .int .i64 (j : Int)] := .cons (slOne hS) (.cons (slOne hSk) (.cons ⟨_, rfl⟩ .nil))
 refine run_mc (φ := φP) (pm := pmPR 0 [] 0) 20 (ws := []) (env := [(0, .agg [n1 0, n1 1]), (1, nI 2)]) q1 .nil (sepOk_ro rfl) .nil (eC q1 (.cons (t := 0) rfl (.cons (t := 1) rfl .nil))) tb_ok apP_ok ?_
 refine all1 (by kernel_rfl) ?_
 intro vs ls H2 E2 st hE
 obtain ⟨p3, e4, r5, n6⟩ := ptr_of st.inn hE 2 0 (by kernel_rfl) (ds := [S, Sk]) (by kernel_rfl)
 have op3 : H.next ≤ p3 := Nat.le_trans (Nat.le_refl _) (n6 (Nat.le_of_ble_eq_true rfl))
 obtain ⟨p7, e8, r9, n10⟩ := ptr_of st.inn hE 6 2 (by kernel_rfl) (ds := [.flt .f32 (some 0), .flt .f32 (some 0), .flt .f32 (some 0)]) (by kernel_rfl)
 have op7 : H.next ≤ p7 := Nat.le_trans (Nat.le_refl _) (n10 (Nat.le_of_ble_eq_true rfl))
 obtain ⟨p11, e12, r13, n14⟩ := ptr_of st.inn hE 4 1 (by kernel_rfl) (ds := [.flt .f32 (some 0), .flt .f32 (some 0), .flt .f32 (some 0)]) (by kernel_rfl)
 have op11 : H.next ≤ p11 := Nat.le_trans (Nat.le_refl _) (n14 (Nat.le_of_ble_eq_true rfl))
 have ne15 : Apart p3 p7 := ⟨ptr_ne st.inn hE 2 0 6 2 (by kernel_rfl) (by kernel_rfl) (cs := [.nd 0 .one, .nd 1 .one]) (by kernel_rfl) (by decide) e4 e8⟩
 have ne16 : Apart p3 p11 := ⟨ptr_ne st.inn hE 2 0 4 1 (by kernel_rfl) (by kernel_rfl) (cs := [.nd 0 .one, .nd 1 .one]) (by kernel_rfl) (by decide) e4 e12⟩
 have ne17 : Apart p7 p11 := ⟨ptr_ne st.inn hE 6 2 4 1 (by kernel_rfl) (by kernel_rfl) (cs := [.lit (.flt .f32 (some 0)), .lit (.flt .f32 (some 0)), .lit (.flt .f32 (some 0))]) (by kernel_rfl) (by decide) e8 e12⟩
 have b18 := eo st hE 16 S
 have b19 := eo st hE 17 (.int .i64 (j : Int))
 have b20 := eo st hE 1 (.int .i64 (j : Int))
 have b21 := eo st hE 8 (.bool false)
 have b22 := eo st hE 7 (.flt .f32 (some 0))
 have g23 : Grew H H2 := (gk st)
 have g24 : Grew H H2 := Grew.trans (Grew.refl _) g23
 clear st hE vs ls
 have hlt25 : j < ms.length := by omega
 obtain ⟨lS25, cap25, rest25, wr25, eS25, gB25⟩ := hS.isSl hlt25
 have gS25 := g24.at gB25
 have ne26 := apn gB25 op3
 have ne27 := apn gB25 op7
 have ne28 := apn gB25 op11
 obtain ⟨v25_0, v25_1, v25_2, hm25, ho25_0, ho25_1, ho25_2⟩ := partsPose (hr.get hlt25)
 have he25 : ms.getD j [] = [.flt .f32 v25_0, .flt .f32 v25_1, .flt .f32 v25_2] := by rw [← hm25, List.getD_eq_getElem?_getD, List.getElem?_eq_getElem hlt25]; rfl
 have q29 := q1.app (.cons ⟨_, rfl, ho25_0⟩ (.cons ⟨_, rfl, ho25_1⟩ (.cons ⟨_, rfl, ho25_2⟩ (.cons ⟨_, rfl⟩ .nil))) : KdsL [KF, KF, KF, KI] [.flt .f32 v25_0, .flt .f32 v25_1, .flt .f32 v25_2, .int .i64 (ks.length : Int)])
 refine run_mc (φ := φP) (pm := pmPR 4 [(.ia 3 (n1 0) (nI 2), .ptr 3 0), (.len (n1 1), nI 6)] 0) 20 (ws := [⟨p3, 0, [n1 0, n1 1], false⟩, ⟨p7, 0, [.lit (.flt .f32 (some 0)), .lit (.flt .f32 (some 0)), .lit (.flt .f32 (some 0))], false⟩, ⟨p11, 0, [.lit (.flt .f32 (some 0)), .lit (.flt .f32 (some 0)), .lit (.flt .f32 (some 0))], false⟩, ⟨lS25, (j * 3), [nF 3, nF 4, nF 5], false⟩]) (env := [(16, n1 0), (17, nI 2), (2, .ptr 0 0), (1, nI 2), (8, .lit (.bool false)), (6, .ptr 1 0), (7, .lit (.flt .f32 (some 0))), (4, .ptr 2 0)]) q29 (.cons (wR r5 q29) (.cons (wR r9 q29) (.cons (wR r13 q29) (.cons (win_elem hr gS25 hlt25 rfl (by rw [hm25]; exact (dL q29))) .nil)))) (sepOk_ro rfl) (.cons (rule_iaS (k := j) (dE q29) eS25 (dE q29) hlt25 rfl) (.cons (⟨_, _, (dE q29), (dE q29), slLen hSk⟩) .nil)) (eC q29 (.cons b18 (.cons b19 (.cons e4 (.cons b20 (.cons b21 (.cons e8 (.cons b22 (.cons e12 .nil))))))))) tb_ok apP_ok ?_
 refine all1 (by kernel_rfl) ?_
 intro vs ls H30 E30 st hE
 obtain ⟨p31, e32, r33, n34⟩ := ptr_of st.inn hE 9 4 (by kernel_rfl) (ds := [.flt .f32 v25_0, .flt .f32 v25_1, .flt .f32 v25_2]) (by kernel_rfl)
 have op31 : H.next ≤ p31 := Nat.le_trans g24.next (n34 (Nat.le_of_ble_eq_true rfl))
 have ne35 := apn r5 (n34 (Nat.le_of_ble_eq_true rfl))
 have ne36 := apn r9 (n34 (Nat.le_of_ble_eq_true rfl))
 have ne37 := apn r13 (n34 (Nat.le_of_ble_eq_true rfl))
 have ne38 := apn gS25 (n34 (Nat.le_of_ble_eq_true rfl))
 have b39 := eo st hE 23 (.int .i64 0)
 have b40 := eo st hE 22 (.int .i64 (ks.length : Int))
 have b41 := eo st hE 21 Sk
 have b42 := eo st hE 1 (.int .i64 (j : Int))
 have b43 := eo st hE 2 (.ptr p3 0)
 have b44 := eo st hE 8 (.bool false)
 have b45 := eo st hE 6 (.ptr p7 0)
 have b46 := eo st hE 7 (.flt .f32 (some 0))
 have b47 := eo st hE 4 (.ptr p11 0)
 have g48 : Grew H2 H30 := (gk st)
 have g49 : Grew H H30 := Grew.trans g24 g48
 have r50 := g48.at r5
 have r51 := g48.at r9
 have r52 := g48.at r13
 clear st hE vs ls
 refine res_loop (by kernel_rfl) (fun z E H' => ∃ (i : Nat), z + i = ks.length ∧ E 22 = .int .i64 (ks.length : Int) ∧ E 21 = Sk ∧ E 1 = .int .i64 (j : Int) ∧ E 2 = .ptr p3 0 ∧ E 9 = .ptr p31 0 ∧ E 6 = .ptr p7 0 ∧ E 4 = .ptr p11 0 ∧ E 23 = .int .i64 (i : Int) ∧ E 7 = .flt .f32 (toldT ms ks (j : Int) v25_2 i).w ∧ E 8 = .bool (toldT ms ks (j : Int) v25_2 i).f ∧ Grew H H' ∧ H'.get p3 = some (.row [S, Sk] true) ∧ H'.get p7 = some (.row [.flt .f32 (toldT ms ks (j : Int) v25_2 i).a, .flt .f32 (toldT ms ks (j : Int) v25_2 i).b, .flt .f32 (toldT ms ks (j : Int) v25_2 i).c] true) ∧ H'.get p11 = some (.row [.flt .f32 (some 0), .flt .f32 (some 0), .flt .f32 (some 0)] true) ∧ H'.get p31 = some (.row [.flt .f32 v25_0, .flt .f32 v25_1, .flt .f32 v25_2] true)) (ks.length) ⟨0, by omega, b40, b41, b42, b43, e32, b45, b47, b39, b46, b44, g49, r50, r51, r52, r33⟩ ?_
 rintro z54 Ei54 Hi54 ⟨i54, hz54, c54_22, c54_21, c54_1, c54_2, c54_9, c54_6, c54_4, ci54, cv54_7, cv54_8, gt54, r54_0, r54_1, r54_2, r54_3⟩
 have q55 := q29.app (.cons ⟨_, rfl⟩ (.cons ⟨_, rfl, (toldT_ok ms hrk (j : Int) v25_2 i54 (by omega)).2.2.2⟩ (.cons ⟨_, rfl⟩ (.cons ⟨_, rfl, (toldT_ok ms hrk (j : Int) v25_2 i54 (by omega)).1⟩ (.cons ⟨_, rfl, (toldT_ok ms hrk (j : Int) v25_2 i54 (by omega)).2.1⟩ (.cons ⟨_, rfl, (toldT_ok ms hrk (j : Int) v25_2 i54 (by omega)).2.2.1⟩ .nil))))) : KdsL [KI, KF, .bool, KF, KF, KF] [.int .i64 (i54 : Int), .flt .f32 (toldT ms ks (j : Int) v25_2 i54).w, .bool (toldT ms ks (j : Int) v25_2 i54).f, .flt .f32 (toldT ms ks (j : Int) v25_2 i54).a, .flt .f32 (toldT ms ks (j : Int) v25_2 i54).b, .flt .f32 (toldT ms ks (j : Int) v25_2 i54).c])
 refine run_mc (φ := φP) (pm := pmPR 4 [] 10) 20 (ws := [⟨p3, 0, [n1 0, n1 1], false⟩, ⟨p7, 0, [nF 10, nF 11, nF 12], false⟩, ⟨p11, 0, [.lit (.flt .f32 (some 0)), .lit (.flt .f32 (some 0)), .lit (.flt .f32 (some 0))], false⟩, ⟨p31, 0, [nF 3, nF 4, nF 5], false⟩]) (env := [(22, nI 6), (21, n1 1), (1, nI 2), (2, .ptr 0 0), (9, .ptr 3 0), (6, .ptr 1 0), (4, .ptr 2 0), (23, nI 7), (7, nF 8), (8, nB 9)]) q55 (.cons (wR r54_0 q55) (.cons (wR r54_1 q55) (.cons (wR r54_2 q55) (.cons (wR r54_3 q55) .nil)))) (sepOk_ro rfl) .nil (eC q55 (.cons c54_22 (.cons c54_21 (.cons c54_1 (.cons c54_2 (.cons c54_9 (.cons c54_6 (.cons c54_4 (.cons ci54 (.cons cv54_7 (.cons cv54_8 .nil))))))))))) tb_ok apP_ok ?_
 refine all2 (by kernel_rfl) ?_ ?_
 ·
  intro vs ls H56 E56 st hE
  have f57 : (i54 : Int) < (ks.length : Int) := dt st 0
  have b58 := eo st hE 21 Sk
  have b59 := eo st hE 23 (.int .i64 (i54 : Int))
  have b60 := eo st hE 1 (.int .i64 (j : Int))
  have b61 := eo st hE 2 (.ptr p3 0)
  have b62 := eo st hE 9 (.ptr p31 0)
  have b63 := eo st hE 8 (.bool (toldT ms ks (j : Int) v25_2 i54).f)
  have b64 := eo st hE 6 (.ptr p7 0)
  have b65 := eo st hE 7 (.flt .f32 (toldT ms ks (j : Int) v25_2 i54).w)
  have b66 := eo st hE 22 (.int .i64 (ks.length : Int))
  have b67 := eo st hE 4 (.ptr p11 0)
  have g68 : Grew Hi54 H56 := (gk st)
  have g69 : Grew H H56 := Grew.trans gt54 g68
  have r70 := g68.at r54_0
  have r71 := g68.at r54_1
  have r72 := g68.at r54_2
  have r73 := g68.at r54_3
  clear st hE vs ls
  have hlt74 : i54 < ks.length := by omega
  obtain ⟨lS74, cap74, rest74, wr74, eS74, gB74⟩ := hSk.isSl hlt74
  have gS74 := g69.at gB74
  have ne75 := apn gB74 op3
  have ne76 := apn gB74 op7
  have ne77 := apn gB74 op11
  have ne78 := apn gB74 op31
  obtain ⟨v74_0, v74_1, v74_2, v74_3, v74_4, v74_5, hm74, ho74_2, ho74_3, ho74_4, ho74_5, ha74, hb74, hne74⟩ := okG_link hok hrk i54 hlt74
  have he74 : ks.getD i54 [] = [.int .i64 (v74_0 : Int), .int .i64 (v74_1 : Int), .flt .f32 v74_2, .flt .f32 v74_3, .flt .f32 v74_4, .flt .f32 v74_5] := by rw [← hm74, List.getD_eq_getElem?_getD, List.getElem?_eq_getElem hlt74]; rfl
  have q79 := q55.app (.cons ⟨_, rfl⟩ (.cons ⟨_, rfl⟩ (.cons ⟨_, rfl, ho74_2⟩ (.cons ⟨_, rfl, ho74_3⟩ (.cons ⟨_, rfl, ho74_4⟩ (.cons ⟨_, rfl, ho74_5⟩ .nil))))) : KdsL [KI, KI, KF, KF, KF, KF] [.int .i64 (v74_0 : Int), .int .i64 (v74_1 : Int), .flt .f32 v74_2, .flt .f32 v74_3, .flt .f32 v74_4, .flt .f32 v74_5])
  refine run_mc (φ := φP) (pm := pmPR 5 [(.ia 6 (n1 1) (nI 7), .ptr 4 0)] 10) 20 (ws := [⟨p3, 0, [n1 0, n1 1], false⟩, ⟨p7, 0, [nF 10, nF 11, nF 12], false⟩, ⟨p11, 0, [.lit (.flt .f32 (some 0)), .lit (.flt .f32 (some 0)), .lit (.flt .f32 (some 0))], false⟩, ⟨p31, 0, [nF 3, nF 4, nF 5], false⟩, ⟨lS74, (i54 * 6), [nI 13, nI 14, nF 15, nF 16, nF 17, nF 18], false⟩]) (env := [(21, n1 1), (23, nI 7), (1, nI 2), (2, .ptr 0 0), (9, .ptr 3 0), (8, nB 9), (6, .ptr 1 0), (7, nF 8), (22, nI 6), (4, .ptr 2 0)]) q79 (.cons (wR r70 q79) (.cons (wR r71 q79) (.cons (wR r72 q79) (.cons (wR r73 q79) (.cons (win_elem hrk gS74 hlt74 rfl (by rw [hm74]; exact (dL q79))) .nil))))) (sepOk_ro rfl) (.cons (rule_iaS (k := i54) (dE q79) eS74 (dE q79) hlt74 rfl) .nil) (eC q79 (.cons b58 (.cons b59 (.cons b60 (.cons b61 (.cons b62 (.cons b63 (.cons b64 (.cons b65 (.cons b66 (.cons b67 .nil))))))))))) tb_ok apP_ok ?_
  refine all3 (by kernel_rfl) ?_ ?_ ?_
  ·
   intro vs ls H80 E80 st hE
   have f81 : (j : Int) = (v74_1 : Int) := dt st 0
   obtain ⟨p82, e83, r84, n85⟩ := ptr_of st.inn hE 11 5 (by kernel_rfl) (ds := [.int .i64 (v74_0 : Int), .int .i64 (v74_1 : Int), .flt .f32 v74_2, .flt .f32 v74_3, .flt .f32 v74_4, .flt .f32 v74_5]) (by kernel_rfl)
   have op82 : H.next ≤ p82 := Nat.le_trans g69.next (n85 (Nat.le_of_ble_eq_true rfl))
   obtain ⟨p86, e87, r88, n89⟩ := ptr_of st.inn hE 12 6 (by kernel_rfl) (ds := [.flt .f32 (some 0), .flt .f32 (some 0), .flt .f32 (some 0)]) (by kernel_rfl)
   have op86 : H.next ≤ p86 := Nat.le_trans g69.next (n89 (Nat.le_of_ble_eq_true rfl))
   have ne90 : Apart p82 p86 := ⟨ptr_ne st.inn hE 11 5 12 6 (by kernel_rfl) (by kernel_rfl) (cs := [.nd 13 (.int .i64), .nd 14 (.int .i64), .nd 15 (.flt .f32), .nd 16 (.flt .f32), .nd 17 (.flt .f32), .nd 18 (.flt .f32)]) (by kernel_rfl) (by decide) e83 e87⟩
   have ne91 := apn r70 (n85 (Nat.le_of_ble_eq_true rfl))
   have ne92 := apn r71 (n85 (Nat.le_of_ble_eq_true rfl))
   have ne93 := apn r72 (n85 (Nat.le_of_ble_eq_true rfl))
   have ne94 := apn r73 (n85 (Nat.le_of_ble_eq_true rfl))
   have ne95 := apn gS74 (n85 (Nat.le_of_ble_eq_true rfl))
   have ne96 := apn r70 (n89 (Nat.le_of_ble_eq_true rfl))
   have ne97 := apn r71 (n89 (Nat.le_of_ble_eq_true rfl))
   have ne98 := apn r72 (n89 (Nat.le_of_ble_eq_true rfl))
   have ne99 := apn r73 (n89 (Nat.le_of_ble_eq_true rfl))
   have ne100 := apn gS74 (n89 (Nat.le_of_ble_eq_true rfl))
   have b101 := eo st hE 34 S
   have b102 := eo st hE 36 (.int .i64 (v74_0 : Int))
   have b103 := eo st hE 9 (.ptr p31 0)
   have b104 := eo st hE 8 (.bool (toldT ms ks (j : Int) v25_2 i54).f)
   have b105 := eo st hE 6 (.ptr p7 0)
   have b106 := eo st hE 7 (.flt .f32 (toldT ms ks (j : Int) v25_2 i54).w)
   have b107 := eo st hE 23 (.int .i64 (i54 : Int))
   have b108 := eo st hE 22 (.int .i64 (ks.length : Int))
   have b109 := eo st hE 21 Sk
   have b110 := eo st hE 1 (.int .i64 (j : Int))
   have b111 := eo st hE 2 (.ptr p3 0)
   have b112 := eo st hE 4 (.ptr p11 0)
   have g113 : Grew H56 H80 := (gk st)
   have g114 : Grew H H80 := Grew.trans g69 g113
   have r115 := g113.at r70
   have r116 := g113.at r71
   have r117 := g113.at r72
   have r118 := g113.at r73
   clear st hE vs ls
   have hlt120 : v74_0 < ms.length := by omega
   obtain ⟨lS120, cap120, rest120, wr120, eS120, gB120⟩ := hS.isSl hlt120
   have gS120 := g114.at gB120
   have ne121 := apn gB120 op3
   have ne122 := apn gB120 op7
   have ne123 := apn gB120 op11
   have ne124 := apn gB120 op31
   have ne125 := apn gB120 op82
   have ne126 := apn gB120 op86
   obtain ⟨v120_0, v120_1, v120_2, hm120, ho120_0, ho120_1, ho120_2⟩ := partsPose (hr.get hlt120)
   have he120 : ms.getD v74_0 [] = [.flt .f32 v120_0, .flt .f32 v120_1, .flt .f32 v120_2] := by rw [← hm120, List.getD_eq_getElem?_getD, List.getElem?_eq_getElem hlt120]; rfl
   obtain ⟨r127_0, r127_1, r127_2, hmr127, or127_0, or127_1, or127_2⟩ := partsPose (compF_ok [.flt .f32 v120_0, .flt .f32 v120_1, .flt .f32 v120_2] [.flt .f32 v74_2, .flt .f32 v74_3, .flt .f32 v74_4])
   have q128 := q79.app (.cons ⟨_, rfl, ho120_0⟩ (.cons ⟨_, rfl, ho120_1⟩ (.cons ⟨_, rfl, ho120_2⟩ (.cons ⟨_, rfl, or127_0⟩ (.cons ⟨_, rfl, or127_1⟩ (.cons ⟨_, rfl, or127_2⟩ .nil))))) : KdsL [KF, KF, KF, KF, KF, KF] [.flt .f32 v120_0, .flt .f32 v120_1, .flt .f32 v120_2, .flt .f32 r127_0, .flt .f32 r127_1, .flt .f32 r127_2])
   refine run_mc (φ := φP) (pm := pmPR 6 [] 10) 20 (ws := [⟨p3, 0, [n1 0, n1 1], false⟩, ⟨p7, 0, [nF 10, nF 11, nF 12], false⟩, ⟨p11, 0, [.lit (.flt .f32 (some 0)), .lit (.flt .f32 (some 0)), .lit (.flt .f32 (some 0))], false⟩, ⟨p31, 0, [nF 3, nF 4, nF 5], false⟩, ⟨p82, 0, [nI 13, nI 14, nF 15, nF 16, nF 17, nF 18], false⟩, ⟨lS120, (v74_0 * 3), [nF 19, nF 20, nF 21], false⟩, ⟨p86, 0, [.lit (.flt .f32 (some 0)), .lit (.flt .f32 (some 0)), .lit (.flt .f32 (some 0))], true⟩]) (env := [(34, n1 0), (36, nI 13), (11, .ptr 4 0), (12, .ptr 6 0), (9, .ptr 3 0), (8, nB 9), (6, .ptr 1 0), (7, nF 8), (23, nI 7), (22, nI 6), (21, n1 1), (1, nI 2), (2, .ptr 0 0), (4, .ptr 2 0)]) q128 (.cons (wR r115 q128) (.cons (wR r116 q128) (.cons (wR r117 q128) (.cons (wR r118 q128) (.cons (wR r84 q128) (.cons (win_elem hr gS120 hlt120 rfl (by rw [hm120]; exact (dL q128))) (.cons (wO r88 q128) .nil))))))) (sepD (by repeat (first | exact .nil | refine .cons (by first | assumption | exact Apart.symm (by assumption)) ?_))) .nil (eC q128 (.cons b101 (.cons b102 (.cons e83 (.cons e87 (.cons b103 (.cons b104 (.cons b105 (.cons b106 (.cons b107 (.cons b108 (.cons b109 (.cons b110 (.cons b111 (.cons b112 .nil))))))))))))))) tb_ok apP_ok ?_
   refine all1 (by kernel_rfl) ?_
   intro vs ls H129 E129 st hE
   have b130 := eo st hE 34 S
   have b131 := eo st hE 36 (.int .i64 (v74_0 : Int))
   have b132 := eo st hE 11 (.ptr p82 0)
   have b133 := eo st hE 12 (.ptr p86 0)
   have b134 := eo st hE 9 (.ptr p31 0)
   have b135 := eo st hE 8 (.bool (toldT ms ks (j : Int) v25_2 i54).f)
   have b136 := eo st hE 6 (.ptr p7 0)
   have b137 := eo st hE 7 (.flt .f32 (toldT ms ks (j : Int) v25_2 i54).w)
   have b138 := eo st hE 23 (.int .i64 (i54 : Int))
   have b139 := eo st hE 22 (.int .i64 (ks.length : Int))
   have b140 := eo st hE 21 Sk
   have b141 := eo st hE 1 (.int .i64 (j : Int))
   have b142 := eo st hE 2 (.ptr p3 0)
   have b143 := eo st hE 4 (.ptr p11 0)
   have g144 : Grew H80 H129 := (gk st)
   have g145 : Grew H H129 := Grew.trans g114 g144
   have r146 := g144.at r115
   have r147 := g144.at r116
   have r148 := g144.at r117
   have r149 := g144.at r118
   have r150 := g144.at r84
   have r152 := g144.at r88
   clear st hE vs ls
   have hlt153 : v74_0 < ms.length := by omega
   obtain ⟨lS153, cap153, rest153, wr153, eS153, gB153⟩ := hS.isSl hlt153
   have gS153 := g145.at gB153
   have ne154 := apn gB153 op3
   have ne155 := apn gB153 op7
   have ne156 := apn gB153 op11
   have ne157 := apn gB153 op31
   have ne158 := apn gB153 op82
   have ne159 := apn gB153 op86
   obtain ⟨v153_0, v153_1, v153_2, hm153, ho153_0, ho153_1, ho153_2⟩ := partsPose (hr.get hlt153)
   have he153 : ms.getD v74_0 [] = [.flt .f32 v153_0, .flt .f32 v153_1, .flt .f32 v153_2] := by rw [← hm153, List.getD_eq_getElem?_getD, List.getElem?_eq_getElem hlt153]; rfl
   have hq153 := he120.symm.trans he153
   simp only [List.cons.injEq, AV.flt.injEq, AV.int.injEq, Int.natCast_inj, true_and, and_true] at hq153
   obtain ⟨rfl, rfl, rfl⟩ := hq153
   have q160 := q128.app (.cons ⟨_, rfl, ho153_0⟩ (.cons ⟨_, rfl, ho153_1⟩ (.cons ⟨_, rfl, ho153_2⟩ .nil)) : KdsL [KF, KF, KF] [.flt .f32 v120_0, .flt .f32 v120_1, .flt .f32 v120_2])
   refine run_mc (φ := φP) (pm := pmPR 5 [] 10) 20 (ws := [⟨p3, 0, [n1 0, n1 1], false⟩, ⟨p11, 0, [.lit (.flt .f32 (some 0)), .lit (.flt .f32 (some 0)), .lit (.flt .f32 (some 0))], false⟩, ⟨p31, 0, [nF 3, nF 4, nF 5], false⟩, ⟨p82, 0, [nI 13, nI 14, nF 15, nF 16, nF 17, nF 18], false⟩, ⟨lS153, (v74_0 * 3), [nF 25, nF 26, nF 27], false⟩, ⟨p86, 0, [.lit (.flt .f32 (some 0)), .lit (.flt .f32 (some 0)), .lit (.flt .f32 (some 0))], true⟩, ⟨p7, 0, [nF 10, nF 11, nF 12], true⟩]) (env := [(34, n1 0), (36, nI 13), (11, .ptr 3 0), (12, .ptr 5 0), (9, .ptr 2 0), (8, nB 9), (6, .ptr 6 0), (7, nF 8), (23, nI 7), (22, nI 6), (21, n1 1), (1, nI 2), (2, .ptr 0 0), (4, .ptr 1 0)]) q160 (.cons (wR r146 q160) (.cons (wR r148 q160) (.cons (wR r149 q160) (.cons (wR r150 q160) (.cons (win_elem hr gS153 hlt153 rfl (by rw [hm153]; exact (dL q160))) (.cons (wO r152 q160) (.cons (wO r147 q160) .nil))))))) (sepD (by repeat (first | exact .nil | refine .cons (by first | assumption | exact Apart.symm (by assumption)) ?_))) .nil (eC q160 (.cons b130 (.cons b131 (.cons b132 (.cons b133 (.cons b134 (.cons b135 (.cons b136 (.cons b137 (.cons b138 (.cons b139 (.cons b140 (.cons b141 (.cons b142 (.cons b143 .nil))))))))))))))) tb_ok apP_ok ?_
   refine all1 (by kernel_rfl) ?_
   intro vs ls H161 E161 st hE
   have b162 := eo st hE 34 S
   have b163 := eo st hE 36 (.int .i64 (v74_0 : Int))
   have b164 := eo st hE 11 (.ptr p82 0)
   have b165 := eo st hE 12 (.ptr p86 0)
   have b166 := eo st hE 9 (.ptr p31 0)
   have b167 := eo st hE 8 (.bool (toldT ms ks (j : Int) v25_2 i54).f)
   have b168 := eo st hE 6 (.ptr p7 0)
   have b169 := eo st hE 7 (.flt .f32 (toldT ms ks (j : Int) v25_2 i54).w)
   have b170 := eo st hE 23 (.int .i64 (i54 : Int))
   have b171 := eo st hE 22 (.int .i64 (ks.length : Int))
   have b172 := eo st hE 21 Sk
   have b173 := eo st hE 1 (.int .i64 (j : Int))
   have b174 := eo st hE 2 (.ptr p3 0)
   have b175 := eo st hE 4 (.ptr p11 0)
   have g176 : Grew H129 H161 := (gk st)
   have g177 : Grew H H161 := Grew.trans g145 g176
   have r178 := g176.at r146
   have r179 := g176.at r148
   have r180 := g176.at r149
   have r181 := g176.at r150
   have r183 := g176.at r152
   have r184 := g176.at r147
   clear st hE vs ls
   have hlt185 : v74_0 < ms.length := by omega
   obtain ⟨lS185, cap185, rest185, wr185, eS185, gB185⟩ := hS.isSl hlt185
   have gS185 := g177.at gB185
   have ne186 := apn gB185 op3
   have ne187 := apn gB185 op11
   have ne188 := apn gB185 op31
   have ne189 := apn gB185 op82
   have ne190 := apn gB185 op86
   have ne191 := apn gB185 op7
   obtain ⟨v185_0, v185_1, v185_2, hm185, ho185_0, ho185_1, ho185_2⟩ := partsPose (hr.get hlt185)
   have he185 : ms.getD v74_0 [] = [.flt .f32 v185_0, .flt .f32 v185_1, .flt .f32 v185_2] := by rw [← hm185, List.getD_eq_getElem?_getD, List.getElem?_eq_getElem hlt185]; rfl
   have hq185 := he153.symm.trans he185
   simp only [List.cons.injEq, AV.flt.injEq, AV.int.injEq, Int.natCast_inj, true_and, and_true] at hq185
   obtain ⟨rfl, rfl, rfl⟩ := hq185
   have q192 := q160.app (.cons ⟨_, rfl, ho185_0⟩ (.cons ⟨_, rfl, ho185_1⟩ (.cons ⟨_, rfl, ho185_2⟩ .nil)) : KdsL [KF, KF, KF] [.flt .f32 v120_0, .flt .f32 v120_1, .flt .f32 v120_2])
   refine run_mc (φ := φP) (pm := pmPR 5 [(.ia 3 (n1 0) (nI 13), .ptr 4 0), (.call 60 [.agg [nF 28, nF 29, nF 30], .agg [nF 15, nF 16, nF 17]], .agg [nF 22, nF 23, nF 24])] 10) 20 (ws := [⟨p3, 0, [n1 0, n1 1], false⟩, ⟨p11, 0, [.lit (.flt .f32 (some 0)), .lit (.flt .f32 (some 0)), .lit (.flt .f32 (some 0))], false⟩, ⟨p31, 0, [nF 3, nF 4, nF 5], false⟩, ⟨p82, 0, [nI 13, nI 14, nF 15, nF 16, nF 17, nF 18], false⟩, ⟨lS185, (v74_0 * 3), [nF 28, nF 29, nF 30], false⟩, ⟨p86, 0, [.lit (.flt .f32 (some 0)), .lit (.flt .f32 (some 0)), .lit (.flt .f32 (some 0))], true⟩, ⟨p7, 0, [nF 10, nF 11, nF 12], true⟩]) (env := [(34, n1 0), (36, nI 13), (11, .ptr 3 0), (12, .ptr 5 0), (9, .ptr 2 0), (8, nB 9), (6, .ptr 6 0), (7, nF 8), (23, nI 7), (22, nI 6), (21, n1 1), (1, nI 2), (2, .ptr 0 0), (4, .ptr 1 0)]) q192 (.cons (wR r178 q192) (.cons (wR r179 q192) (.cons (wR r180 q192) (.cons (wR r181 q192) (.cons (win_elem hr gS185 hlt185 rfl (by rw [hm185]; exact (dL q192))) (.cons (wO r183 q192) (.cons (wO r184 q192) .nil))))))) (sepD (by repeat (first | exact .nil | refine .cons (by first | assumption | exact Apart.symm (by assumption)) ?_))) (.cons (rule_iaS (k := v74_0) (dE q192) eS185 (dE q192) hlt185 rfl) (.cons (rule_call (args := [.agg [.flt .f32 v120_0, .flt .f32 v120_1, .flt .f32 v120_2], .agg [.flt .f32 v74_2, .flt .f32 v74_3, .flt .f32 v74_4]]) (r := .agg [.flt .f32 r127_0, .flt .f32 r127_1, .flt .f32 r127_2]) (dL q192) (dE q192) (fun H9 hk => (by rw [← hmr127]; exact k_ComposePoses [.flt .f32 v120_0, .flt .f32 v120_1, .flt .f32 v120_2] [.flt .f32 v74_2, .flt .f32 v74_3, .flt .f32 v74_4] (.cons ⟨_, rfl, ho185_0⟩ (.cons ⟨_, rfl, ho185_1⟩ (.cons ⟨_, rfl, ho185_2⟩ .nil))) (.cons ⟨_, rfl, ho74_2⟩ (.cons ⟨_, rfl, ho74_3⟩ (.cons ⟨_, rfl, ho74_4⟩ .nil))) H9))) .nil)) (eC q192 (.cons b162 (.cons b163 (.cons b164 (.cons b165 (.cons b166 (.cons b167 (.cons b168 (.cons b169 (.cons b170 (.cons b171 (.cons b172 (.cons b173 (.cons b174 (.cons b175 .nil))))))))))))))) tb_ok apP_ok ?_
   refine all2 (by kernel_rfl) ?_ ?_
   ·
    intro vs ls H193 E193 st hE
    have f194 : (toldT ms ks (j : Int) v25_2 i54).f = true := bf st 0
    obtain ⟨w195, hw195⟩ : ∃ z, z = (wrapF (fop .sub .f32 r127_2 v25_2)) := ⟨_, rfl⟩
    obtain ⟨w197, hw197⟩ : ∃ z, z = (fop .add .f32 (toldT ms ks (j : Int) v25_2 i54).a (fop .mul .f32 v74_5 r127_0)) := ⟨_, rfl⟩
    obtain ⟨w198, hw198⟩ : ∃ z, z = (fop .add .f32 (toldT ms ks (j : Int) v25_2 i54).b (fop .mul .f32 v74_5 r127_1)) := ⟨_, rfl⟩
    obtain ⟨w199, hw199⟩ : ∃ z, z = (fop .add .f32 (toldT ms ks (j : Int) v25_2 i54).c (fop .mul .f32 v74_5 (wrapF (fop .sub .f32 r127_2 v25_2)))) := ⟨_, rfl⟩
    have r200 : H193.get p7 = some (.row [.flt .f32 (fop .add .f32 (toldT ms ks (j : Int) v25_2 i54).a (fop .mul .f32 v74_5 r127_0)), .flt .f32 (fop .add .f32 (toldT ms ks (j : Int) v25_2 i54).b (fop .mul .f32 v74_5 r127_1)), .flt .f32 (fop .add .f32 (toldT ms ks (j : Int) v25_2 i54).c (fop .mul .f32 v74_5 (wrapF (fop .sub .f32 r127_2 v25_2))))] true) := row_whole st.inn 6 (l := p7) (b := 0) rfl (by kernel_rfl)
    obtain ⟨w201, hw201⟩ : ∃ z, z = (IntKind.wrap .i64 ((i54 : Int) + 1)) := ⟨_, rfl⟩
    have b202 : E193 23 = .int .i64 w201 := by rw [hw201]; exact eo st hE 23 _
    have b203 := eo st hE 22 (.int .i64 (ks.length : Int))
    have b204 := eo st hE 21 Sk
    have b205 := eo st hE 1 (.int .i64 (j : Int))
    have b206 := eo st hE 2 (.ptr p3 0)
    have b207 := eo st hE 9 (.ptr p31 0)
    have b208 := eo st hE 6 (.ptr p7 0)
    have b209 := eo st hE 4 (.ptr p11 0)
    obtain ⟨w210, hw210⟩ : ∃ z, z = (fop .add .f32 (toldT ms ks (j : Int) v25_2 i54).w v74_5) := ⟨_, rfl⟩
    have b211 : E193 7 = .flt .f32 w210 := by rw [hw210]; exact eo st hE 7 _
    have b212 := eo st hE 8 (.bool true)
    have g214 : Grew H H193 := grew_own g177 st.inn.kept ⟨op86, ⟨op7, trivial⟩⟩
    have r215 := kept_at st.inn.kept r178 ⟨by first | assumption | exact Apart.symm (by assumption), ⟨by first | assumption | exact Apart.symm (by assumption), trivial⟩⟩
    have r216 := kept_at st.inn.kept r179 ⟨by first | assumption | exact Apart.symm (by assumption), ⟨by first | assumption | exact Apart.symm (by assumption), trivial⟩⟩
    have r217 := kept_at st.inn.kept r180 ⟨by first | assumption | exact Apart.symm (by assumption), ⟨by first | assumption | exact Apart.symm (by assumption), trivial⟩⟩
    clear st hE vs ls
    have hz9 : z54 - 1 < z54 := by omega
    have hy9 : z54 - 1 + (i54 + 1) = ks.length := by omega
    have hi9 : E193 23 = .int .i64 ((i54 + 1 : Nat) : Int) := by rw [b202, hw201, wrap64 (by omega)]
    have hn9 : (toldT ms ks (j : Int) v25_2 (i54 + 1)) = ⟨w197, w198, w199, w210, true⟩ := by
     show toldS _ _ _ _ _ = _; unfold toldS; rw [he74]; rw [toldP_link, if_pos (by omega)]
     rw [show ∀ a : Nat, (a : Int).toNat = a from fun _ => rfl, he185, hmr127]
     show tellW _ _ _ _ = _; unfold tellW; rw [show (toldT ms ks (j : Int) v25_2 i54).f = true from by simpa using f194]
     simp only [hw195, hw197, hw198, hw199, hw201, hw210, linkW, if_true, Bool.false_eq_true, if_false]
    exact res_norm (by kernel_rfl) ⟨z54 - 1, hz9, i54 + 1, hy9, b203, b204, b205, b206, b207, b208, b209, hi9, (by rw [hn9]; exact b211), (by rw [hn9]; exact b212), g214, r215, (by rw [hn9, hw197, hw198, hw199]; exact r200), r216, r217⟩
   ·
    intro vs ls H220 E220 st hE
    have f221 : (toldT ms ks (j : Int) v25_2 i54).f = false := bf st 0
    obtain ⟨w222, hw222⟩ : ∃ z, z = (wrapF (fop .sub .f32 r127_2 v25_2)) := ⟨_, rfl⟩
    obtain ⟨w224, hw224⟩ : ∃ z, z = (fop .mul .f32 v74_5 r127_0) := ⟨_, rfl⟩
    obtain ⟨w225, hw225⟩ : ∃ z, z = (fop .mul .f32 v74_5 r127_1) := ⟨_, rfl⟩
    obtain ⟨w226, hw226⟩ : ∃ z, z = (fop .mul .f32 v74_5 (wrapF (fop .sub .f32 r127_2 v25_2))) := ⟨_, rfl⟩
    have r227 : H220.get p7 = some (.row [.flt .f32 (fop .mul .f32 v74_5 r127_0), .flt .f32 (fop .mul .f32 v74_5 r127_1), .flt .f32 (fop .mul .f32 v74_5 (wrapF (fop .sub .f32 r127_2 v25_2)))] true) := row_whole st.inn 6 (l := p7) (b := 0) rfl (by kernel_rfl)
    obtain ⟨w228, hw228⟩ : ∃ z, z = (IntKind.wrap .i64 ((i54 : Int) + 1)) := ⟨_, rfl⟩
    have b229 : E220 23 = .int .i64 w228 := by rw [hw228]; exact eo st hE 23 _
    have b230 := eo st hE 22 (.int .i64 (ks.length : Int))
    have b231 := eo st hE 21 Sk
    have b232 := eo st hE 1 (.int .i64 (j : Int))
    have b233 := eo st hE 2 (.ptr p3 0)
    have b234 := eo st hE 9 (.ptr p31 0)
    have b235 := eo st hE 6 (.ptr p7 0)
    have b236 := eo st hE 4 (.ptr p11 0)
    have b237 := eo st hE 7 (.flt .f32 v74_5)
    have b238 := eo st hE 8 (.bool true)
    have g240 : Grew H H220 := grew_own g177 st.inn.kept ⟨op86, ⟨op7, trivial⟩⟩
    have r241 := kept_at st.inn.kept r178 ⟨by first | assumption | exact Apart.symm (by assumption), ⟨by first | assumption | exact Apart.symm (by assumption), trivial⟩⟩
    have r242 := kept_at st.inn.kept r179 ⟨by first | assumption | exact Apart.symm (by assumption), ⟨by first | assumption | exact Apart.symm (by assumption), trivial⟩⟩
    have r243 := kept_at st.inn.kept r180 ⟨by first | assumption | exact Apart.symm (by assumption), ⟨by first | assumption | exact Apart.symm (by assumption), trivial⟩⟩
    clear st hE vs ls
    have hz9 : z54 - 1 < z54 := by omega
    have hy9 : z54 - 1 + (i54 + 1) = ks.length := by omega
    have hi9 : E220 23 = .int .i64 ((i54 + 1 : Nat) : Int) := by rw [b229, hw228, wrap64 (by omega)]
    have hn9 : (toldT ms ks (j : Int) v25_2 (i54 + 1)) = ⟨w224, w225, w226, v74_5, true⟩ := by
     show toldS _ _ _ _ _ = _; unfold toldS; rw [he74]; rw [toldP_link, if_pos (by omega)]
     rw [show ∀ a : Nat, (a : Int).toNat = a from fun _ => rfl, he185, hmr127]
     show tellW _ _ _ _ = _; unfold tellW; rw [show (toldT ms ks (j : Int) v25_2 i54).f = false from by simpa using f221]
     simp only [hw222, hw224, hw225, hw226, hw228, linkW, if_true, Bool.false_eq_true, if_false]
    exact res_norm (by kernel_rfl) ⟨z54 - 1, hz9, i54 + 1, hy9, b230, b231, b232, b233, b234, b235, b236, hi9, (by rw [hn9]; exact b237), (by rw [hn9]; exact b238), g240, r241, (by rw [hn9, hw224, hw225, hw226]; exact r227), r242, r243⟩
  ·
   intro vs ls H246 E246 st hE
   have f247 : (j : Int) = (v74_0 : Int) := dt st 0
   have f248 : ¬ ((j : Int) = (v74_1 : Int)) := df st 1
   obtain ⟨p249, e250, r251, n252⟩ := ptr_of st.inn hE 11 5 (by kernel_rfl) (ds := [.int .i64 (v74_0 : Int), .int .i64 (v74_1 : Int), .flt .f32 v74_2, .flt .f32 v74_3, .flt .f32 v74_4, .flt .f32 v74_5]) (by kernel_rfl)
   have op249 : H.next ≤ p249 := Nat.le_trans g69.next (n252 (Nat.le_of_ble_eq_true rfl))
   obtain ⟨p253, e254, r255, n256⟩ := ptr_of st.inn hE 12 6 (by kernel_rfl) (ds := [.flt .f32 (some 0), .flt .f32 (some 0), .flt .f32 (some 0)]) (by kernel_rfl)
   have op253 : H.next ≤ p253 := Nat.le_trans g69.next (n256 (Nat.le_of_ble_eq_true rfl))
   have ne257 : Apart p249 p253 := ⟨ptr_ne st.inn hE 11 5 12 6 (by kernel_rfl) (by kernel_rfl) (cs := [.nd 13 (.int .i64), .nd 14 (.int .i64), .nd 15 (.flt .f32), .nd 16 (.flt .f32), .nd 17 (.flt .f32), .nd 18 (.flt .f32)]) (by kernel_rfl) (by decide) e250 e254⟩
   have ne258 := apn r70 (n252 (Nat.le_of_ble_eq_true rfl))
   have ne259 := apn r71 (n252 (Nat.le_of_ble_eq_true rfl))
   have ne260 := apn r72 (n252 (Nat.le_of_ble_eq_true rfl))
   have ne261 := apn r73 (n252 (Nat.le_of_ble_eq_true rfl))
   have ne262 := apn gS74 (n252 (Nat.le_of_ble_eq_true rfl))
   have ne263 := apn r70 (n256 (Nat.le_of_ble_eq_true rfl))
   have ne264 := apn r71 (n256 (Nat.le_of_ble_eq_true rfl))
   have ne265 := apn r72 (n256 (Nat.le_of_ble_eq_true rfl))
   have ne266 := apn r73 (n256 (Nat.le_of_ble_eq_true rfl))
   have ne267 := apn gS74 (n256 (Nat.le_of_ble_eq_true rfl))
   have b268 := eo st hE 47 S
   have b269 := eo st hE 49 (.int .i64 (v74_1 : Int))
   have b270 := eo st hE 9 (.ptr p31 0)
   have b271 := eo st hE 8 (.bool (toldT ms ks (j : Int) v25_2 i54).f)
   have b272 := eo st hE 6 (.ptr p7 0)
   have b273 := eo st hE 7 (.flt .f32 (toldT ms ks (j : Int) v25_2 i54).w)
   have b274 := eo st hE 23 (.int .i64 (i54 : Int))
   have b275 := eo st hE 22 (.int .i64 (ks.length : Int))
   have b276 := eo st hE 21 Sk
   have b277 := eo st hE 1 (.int .i64 (j : Int))
   have b278 := eo st hE 2 (.ptr p3 0)
   have b279 := eo st hE 4 (.ptr p11 0)
   have g280 : Grew H56 H246 := (gk st)
   have g281 : Grew H H246 := Grew.trans g69 g280
   have r282 := g280.at r70
   have r283 := g280.at r71
   have r284 := g280.at r72
   have r285 := g280.at r73
   clear st hE vs ls
   have hlt287 : v74_1 < ms.length := by omega
   obtain ⟨lS287, cap287, rest287, wr287, eS287, gB287⟩ := hS.isSl hlt287
   have gS287 := g281.at gB287
   have ne288 := apn gB287 op3
   have ne289 := apn gB287 op7
   have ne290 := apn gB287 op11
   have ne291 := apn gB287 op31
   have ne292 := apn gB287 op249
   have ne293 := apn gB287 op253
   obtain ⟨v287_0, v287_1, v287_2, hm287, ho287_0, ho287_1, ho287_2⟩ := partsPose (hr.get hlt287)
   have he287 : ms.getD v74_1 [] = [.flt .f32 v287_0, .flt .f32 v287_1, .flt .f32 v287_2] := by rw [← hm287, List.getD_eq_getElem?_getD, List.getElem?_eq_getElem hlt287]; rfl
   obtain ⟨r294_0, r294_1, r294_2, hmr294, or294_0, or294_1, or294_2⟩ := partsPose (backF_ok [.flt .f32 v74_2, .flt .f32 v74_3, .flt .f32 v74_4])
   obtain ⟨r295_0, r295_1, r295_2, hmr295, or295_0, or295_1, or295_2⟩ := partsPose (compF_ok [.flt .f32 v287_0, .flt .f32 v287_1, .flt .f32 v287_2] [.flt .f32 r294_0, .flt .f32 r294_1, .flt .f32 r294_2])
   have q296 := q79.app (.cons ⟨_, rfl, ho287_0⟩ (.cons ⟨_, rfl, ho287_1⟩ (.cons ⟨_, rfl, ho287_2⟩ (.cons ⟨_, rfl, or294_0⟩ (.cons ⟨_, rfl, or294_1⟩ (.cons ⟨_, rfl, or294_2⟩ (.cons ⟨_, rfl, or295_0⟩ (.cons ⟨_, rfl, or295_1⟩ (.cons ⟨_, rfl, or295_2⟩ .nil)))))))) : KdsL [KF, KF, KF, KF, KF, KF, KF, KF, KF] [.flt .f32 v287_0, .flt .f32 v287_1, .flt .f32 v287_2, .flt .f32 r294_0, .flt .f32 r294_1, .flt .f32 r294_2, .flt .f32 r295_0, .flt .f32 r295_1, .flt .f32 r295_2])
   refine run_mc (φ := φP) (pm := pmPR 6 [] 10) 20 (ws := [⟨p3, 0, [n1 0, n1 1], false⟩, ⟨p7, 0, [nF 10, nF 11, nF 12], false⟩, ⟨p11, 0, [.lit (.flt .f32 (some 0)), .lit (.flt .f32 (some 0)), .lit (.flt .f32 (some 0))], false⟩, ⟨p31, 0, [nF 3, nF 4, nF 5], false⟩, ⟨p249, 0, [nI 13, nI 14, nF 15, nF 16, nF 17, nF 18], false⟩, ⟨lS287, (v74_1 * 3), [nF 19, nF 20, nF 21], false⟩, ⟨p253, 0, [.lit (.flt .f32 (some 0)), .lit (.flt .f32 (some 0)), .lit (.flt .f32 (some 0))], true⟩]) (env := [(47, n1 0), (49, nI 14), (11, .ptr 4 0), (12, .ptr 6 0), (9, .ptr 3 0), (8, nB 9), (6, .ptr 1 0), (7, nF 8), (23, nI 7), (22, nI 6), (21, n1 1), (1, nI 2), (2, .ptr 0 0), (4, .ptr 2 0)]) q296 (.cons (wR r282 q296) (.cons (wR r283 q296) (.cons (wR r284 q296) (.cons (wR r285 q296) (.cons (wR r251 q296) (.cons (win_elem hr gS287 hlt287 rfl (by rw [hm287]; exact (dL q296))) (.cons (wO r255 q296) .nil))))))) (sepD (by repeat (first | exact .nil | refine .cons (by first | assumption | exact Apart.symm (by assumption)) ?_))) .nil (eC q296 (.cons b268 (.cons b269 (.cons e250 (.cons e254 (.cons b270 (.cons b271 (.cons b272 (.cons b273 (.cons b274 (.cons b275 (.cons b276 (.cons b277 (.cons b278 (.cons b279 .nil))))))))))))))) tb_ok apP_ok ?_
   refine all1 (by kernel_rfl) ?_
   intro vs ls H297 E297 st hE
   have b298 := eo st hE 47 S
   have b299 := eo st hE 49 (.int .i64 (v74_1 : Int))
   have b300 := eo st hE 11 (.ptr p249 0)
   have b301 := eo st hE 12 (.ptr p253 0)
   have b302 := eo st hE 9 (.ptr p31 0)
   have b303 := eo st hE 8 (.bool (toldT ms ks (j : Int) v25_2 i54).f)
   have b304 := eo st hE 6 (.ptr p7 0)
   have b305 := eo st hE 7 (.flt .f32 (toldT ms ks (j : Int) v25_2 i54).w)
   have b306 := eo st hE 23 (.int .i64 (i54 : Int))
   have b307 := eo st hE 22 (.int .i64 (ks.length : Int))
   have b308 := eo st hE 21 Sk
   have b309 := eo st hE 1 (.int .i64 (j : Int))
   have b310 := eo st hE 2 (.ptr p3 0)
   have b311 := eo st hE 4 (.ptr p11 0)
   have g312 : Grew H246 H297 := (gk st)
   have g313 : Grew H H297 := Grew.trans g281 g312
   have r314 := g312.at r282
   have r315 := g312.at r283
   have r316 := g312.at r284
   have r317 := g312.at r285
   have r318 := g312.at r251
   have r320 := g312.at r255
   clear st hE vs ls
   have hlt321 : v74_1 < ms.length := by omega
   obtain ⟨lS321, cap321, rest321, wr321, eS321, gB321⟩ := hS.isSl hlt321
   have gS321 := g313.at gB321
   have ne322 := apn gB321 op3
   have ne323 := apn gB321 op7
   have ne324 := apn gB321 op11
   have ne325 := apn gB321 op31
   have ne326 := apn gB321 op249
   have ne327 := apn gB321 op253
   obtain ⟨v321_0, v321_1, v321_2, hm321, ho321_0, ho321_1, ho321_2⟩ := partsPose (hr.get hlt321)
   have he321 : ms.getD v74_1 [] = [.flt .f32 v321_0, .flt .f32 v321_1, .flt .f32 v321_2] := by rw [← hm321, List.getD_eq_getElem?_getD, List.getElem?_eq_getElem hlt321]; rfl
   have hq321 := he287.symm.trans he321
   simp only [List.cons.injEq, AV.flt.injEq, AV.int.injEq, Int.natCast_inj, true_and, and_true] at hq321
   obtain ⟨rfl, rfl, rfl⟩ := hq321
   have q328 := q296.app (.cons ⟨_, rfl, ho321_0⟩ (.cons ⟨_, rfl, ho321_1⟩ (.cons ⟨_, rfl, ho321_2⟩ .nil)) : KdsL [KF, KF, KF] [.flt .f32 v287_0, .flt .f32 v287_1, .flt .f32 v287_2])
   refine run_mc (φ := φP) (pm := pmPR 5 [] 10) 20 (ws := [⟨p3, 0, [n1 0, n1 1], false⟩, ⟨p11, 0, [.lit (.flt .f32 (some 0)), .lit (.flt .f32 (some 0)), .lit (.flt .f32 (some 0))], false⟩, ⟨p31, 0, [nF 3, nF 4, nF 5], false⟩, ⟨p249, 0, [nI 13, nI 14, nF 15, nF 16, nF 17, nF 18], false⟩, ⟨lS321, (v74_1 * 3), [nF 28, nF 29, nF 30], false⟩, ⟨p253, 0, [.lit (.flt .f32 (some 0)), .lit (.flt .f32 (some 0)), .lit (.flt .f32 (some 0))], true⟩, ⟨p7, 0, [nF 10, nF 11, nF 12], true⟩]) (env := [(47, n1 0), (49, nI 14), (11, .ptr 3 0), (12, .ptr 5 0), (9, .ptr 2 0), (8, nB 9), (6, .ptr 6 0), (7, nF 8), (23, nI 7), (22, nI 6), (21, n1 1), (1, nI 2), (2, .ptr 0 0), (4, .ptr 1 0)]) q328 (.cons (wR r314 q328) (.cons (wR r316 q328) (.cons (wR r317 q328) (.cons (wR r318 q328) (.cons (win_elem hr gS321 hlt321 rfl (by rw [hm321]; exact (dL q328))) (.cons (wO r320 q328) (.cons (wO r315 q328) .nil))))))) (sepD (by repeat (first | exact .nil | refine .cons (by first | assumption | exact Apart.symm (by assumption)) ?_))) .nil (eC q328 (.cons b298 (.cons b299 (.cons b300 (.cons b301 (.cons b302 (.cons b303 (.cons b304 (.cons b305 (.cons b306 (.cons b307 (.cons b308 (.cons b309 (.cons b310 (.cons b311 .nil))))))))))))))) tb_ok apP_ok ?_
   refine all1 (by kernel_rfl) ?_
   intro vs ls H329 E329 st hE
   have b330 := eo st hE 47 S
   have b331 := eo st hE 49 (.int .i64 (v74_1 : Int))
   have b332 := eo st hE 11 (.ptr p249 0)
   have b333 := eo st hE 12 (.ptr p253 0)
   have b334 := eo st hE 9 (.ptr p31 0)
   have b335 := eo st hE 8 (.bool (toldT ms ks (j : Int) v25_2 i54).f)
   have b336 := eo st hE 6 (.ptr p7 0)
   have b337 := eo st hE 7 (.flt .f32 (toldT ms ks (j : Int) v25_2 i54).w)
   have b338 := eo st hE 23 (.int .i64 (i54 : Int))
   have b339 := eo st hE 22 (.int .i64 (ks.length : Int))
   have b340 := eo st hE 21 Sk
   have b341 := eo st hE 1 (.int .i64 (j : Int))
   have b342 := eo st hE 2 (.ptr p3 0)
   have b343 := eo st hE 4 (.ptr p11 0)
   have g344 : Grew H297 H329 := (gk st)
   have g345 : Grew H H329 := Grew.trans g313 g344
   have r346 := g344.at r314
   have r347 := g344.at r316
   have r348 := g344.at r317
   have r349 := g344.at r318
   have r351 := g344.at r320
   have r352 := g344.at r315
   clear st hE vs ls
   have hlt353 : v74_1 < ms.length := by omega
   obtain ⟨lS353, cap353, rest353, wr353, eS353, gB353⟩ := hS.isSl hlt353
   have gS353 := g345.at gB353
   have ne354 := apn gB353 op3
   have ne355 := apn gB353 op11
   have ne356 := apn gB353 op31
   have ne357 := apn gB353 op249
   have ne358 := apn gB353 op253
   have ne359 := apn gB353 op7
   obtain ⟨v353_0, v353_1, v353_2, hm353, ho353_0, ho353_1, ho353_2⟩ := partsPose (hr.get hlt353)
   have he353 : ms.getD v74_1 [] = [.flt .f32 v353_0, .flt .f32 v353_1, .flt .f32 v353_2] := by rw [← hm353, List.getD_eq_getElem?_getD, List.getElem?_eq_getElem hlt353]; rfl
   have hq353 := he321.symm.trans he353
   simp only [List.cons.injEq, AV.flt.injEq, AV.int.injEq, Int.natCast_inj, true_and, and_true] at hq353
   obtain ⟨rfl, rfl, rfl⟩ := hq353
   have q360 := q328.app (.cons ⟨_, rfl, ho353_0⟩ (.cons ⟨_, rfl, ho353_1⟩ (.cons ⟨_, rfl, ho353_2⟩ .nil)) : KdsL [KF, KF, KF] [.flt .f32 v287_0, .flt .f32 v287_1, .flt .f32 v287_2])
   refine run_mc (φ := φP) (pm := pmPR 5 [(.ia 3 (n1 0) (nI 14), .ptr 4 0), (.call 120 [.agg [nF 15, nF 16, nF 17]], .agg [nF 22, nF 23, nF 24]), (.call 60 [.agg [nF 31, nF 32, nF 33], .agg [nF 22, nF 23, nF 24]], .agg [nF 25, nF 26, nF 27])] 10) 20 (ws := [⟨p3, 0, [n1 0, n1 1], false⟩, ⟨p11, 0, [.lit (.flt .f32 (some 0)), .lit (.flt .f32 (some 0)), .lit (.flt .f32 (some 0))], false⟩, ⟨p31, 0, [nF 3, nF 4, nF 5], false⟩, ⟨p249, 0, [nI 13, nI 14, nF 15, nF 16, nF 17, nF 18], false⟩, ⟨lS353, (v74_1 * 3), [nF 31, nF 32, nF 33], false⟩, ⟨p253, 0, [.lit (.flt .f32 (some 0)), .lit (.flt .f32 (some 0)), .lit (.flt .f32 (some 0))], true⟩, ⟨p7, 0, [nF 10, nF 11, nF 12], true⟩]) (env := [(47, n1 0), (49, nI 14), (11, .ptr 3 0), (12, .ptr 5 0), (9, .ptr 2 0), (8, nB 9), (6, .ptr 6 0), (7, nF 8), (23, nI 7), (22, nI 6), (21, n1 1), (1, nI 2), (2, .ptr 0 0), (4, .ptr 1 0)]) q360 (.cons (wR r346 q360) (.cons (wR r347 q360) (.cons (wR r348 q360) (.cons (wR r349 q360) (.cons (win_elem hr gS353 hlt353 rfl (by rw [hm353]; exact (dL q360))) (.cons (wO r351 q360) (.cons (wO r352 q360) .nil))))))) (sepD (by repeat (first | exact .nil | refine .cons (by first | assumption | exact Apart.symm (by assumption)) ?_))) (.cons (rule_iaS (k := v74_1) (dE q360) eS353 (dE q360) hlt353 rfl) (.cons (rule_call (args := [.agg [.flt .f32 v74_2, .flt .f32 v74_3, .flt .f32 v74_4]]) (r := .agg [.flt .f32 r294_0, .flt .f32 r294_1, .flt .f32 r294_2]) (dL q360) (dE q360) (fun H9 hk => (by rw [← hmr294]; exact k_BackPose [.flt .f32 v74_2, .flt .f32 v74_3, .flt .f32 v74_4] (.cons ⟨_, rfl, ho74_2⟩ (.cons ⟨_, rfl, ho74_3⟩ (.cons ⟨_, rfl, ho74_4⟩ .nil))) H9))) (.cons (rule_call (args := [.agg [.flt .f32 v287_0, .flt .f32 v287_1, .flt .f32 v287_2], .agg [.flt .f32 r294_0, .flt .f32 r294_1, .flt .f32 r294_2]]) (r := .agg [.flt .f32 r295_0, .flt .f32 r295_1, .flt .f32 r295_2]) (dL q360) (dE q360) (fun H9 hk => (by rw [← hmr295]; exact k_ComposePoses [.flt .f32 v287_0, .flt .f32 v287_1, .flt .f32 v287_2] [.flt .f32 r294_0, .flt .f32 r294_1, .flt .f32 r294_2] (.cons ⟨_, rfl, ho353_0⟩ (.cons ⟨_, rfl, ho353_1⟩ (.cons ⟨_, rfl, ho353_2⟩ .nil))) (.cons ⟨_, rfl, or294_0⟩ (.cons ⟨_, rfl, or294_1⟩ (.cons ⟨_, rfl, or294_2⟩ .nil))) H9))) .nil))) (eC q360 (.cons b330 (.cons b331 (.cons b332 (.cons b333 (.cons b334 (.cons b335 (.cons b336 (.cons b337 (.cons b338 (.cons b339 (.cons b340 (.cons b341 (.cons b342 (.cons b343 .nil))))))))))))))) tb_ok apP_ok ?_
   refine all2 (by kernel_rfl) ?_ ?_
   ·
    intro vs ls H361 E361 st hE
    have f362 : (toldT ms ks (j : Int) v25_2 i54).f = true := bf st 0
    obtain ⟨w363, hw363⟩ : ∃ z, z = (wrapF (fop .sub .f32 r295_2 v25_2)) := ⟨_, rfl⟩
    obtain ⟨w365, hw365⟩ : ∃ z, z = (fop .add .f32 (toldT ms ks (j : Int) v25_2 i54).a (fop .mul .f32 v74_5 r295_0)) := ⟨_, rfl⟩
    obtain ⟨w366, hw366⟩ : ∃ z, z = (fop .add .f32 (toldT ms ks (j : Int) v25_2 i54).b (fop .mul .f32 v74_5 r295_1)) := ⟨_, rfl⟩
    obtain ⟨w367, hw367⟩ : ∃ z, z = (fop .add .f32 (toldT ms ks (j : Int) v25_2 i54).c (fop .mul .f32 v74_5 (wrapF (fop .sub .f32 r295_2 v25_2)))) := ⟨_, rfl⟩
    have r368 : H361.get p7 = some (.row [.flt .f32 (fop .add .f32 (toldT ms ks (j : Int) v25_2 i54).a (fop .mul .f32 v74_5 r295_0)), .flt .f32 (fop .add .f32 (toldT ms ks (j : Int) v25_2 i54).b (fop .mul .f32 v74_5 r295_1)), .flt .f32 (fop .add .f32 (toldT ms ks (j : Int) v25_2 i54).c (fop .mul .f32 v74_5 (wrapF (fop .sub .f32 r295_2 v25_2))))] true) := row_whole st.inn 6 (l := p7) (b := 0) rfl (by kernel_rfl)
    obtain ⟨w369, hw369⟩ : ∃ z, z = (IntKind.wrap .i64 ((i54 : Int) + 1)) := ⟨_, rfl⟩
    have b370 : E361 23 = .int .i64 w369 := by rw [hw369]; exact eo st hE 23 _
    have b371 := eo st hE 22 (.int .i64 (ks.length : Int))
    have b372 := eo st hE 21 Sk
    have b373 := eo st hE 1 (.int .i64 (j : Int))
    have b374 := eo st hE 2 (.ptr p3 0)
    have b375 := eo st hE 9 (.ptr p31 0)
    have b376 := eo st hE 6 (.ptr p7 0)
    have b377 := eo st hE 4 (.ptr p11 0)
    obtain ⟨w378, hw378⟩ : ∃ z, z = (fop .add .f32 (toldT ms ks (j : Int) v25_2 i54).w v74_5) := ⟨_, rfl⟩
    have b379 : E361 7 = .flt .f32 w378 := by rw [hw378]; exact eo st hE 7 _
    have b380 := eo st hE 8 (.bool true)
    have g382 : Grew H H361 := grew_own g345 st.inn.kept ⟨op253, ⟨op7, trivial⟩⟩
    have r383 := kept_at st.inn.kept r346 ⟨by first | assumption | exact Apart.symm (by assumption), ⟨by first | assumption | exact Apart.symm (by assumption), trivial⟩⟩
    have r384 := kept_at st.inn.kept r347 ⟨by first | assumption | exact Apart.symm (by assumption), ⟨by first | assumption | exact Apart.symm (by assumption), trivial⟩⟩
    have r385 := kept_at st.inn.kept r348 ⟨by first | assumption | exact Apart.symm (by assumption), ⟨by first | assumption | exact Apart.symm (by assumption), trivial⟩⟩
    clear st hE vs ls
    have hz9 : z54 - 1 < z54 := by omega
    have hy9 : z54 - 1 + (i54 + 1) = ks.length := by omega
    have hi9 : E361 23 = .int .i64 ((i54 + 1 : Nat) : Int) := by rw [b370, hw369, wrap64 (by omega)]
    have hn9 : (toldT ms ks (j : Int) v25_2 (i54 + 1)) = ⟨w365, w366, w367, w378, true⟩ := by
     show toldS _ _ _ _ _ = _; unfold toldS; rw [he74]; rw [toldP_link, if_neg (by omega), if_pos (by omega)]
     rw [show ∀ a : Nat, (a : Int).toNat = a from fun _ => rfl, he353, hmr294, hmr295]
     show tellW _ _ _ _ = _; unfold tellW; rw [show (toldT ms ks (j : Int) v25_2 i54).f = true from by simpa using f362]
     simp only [hw363, hw365, hw366, hw367, hw369, hw378, linkW, if_true, Bool.false_eq_true, if_false]
    exact res_norm (by kernel_rfl) ⟨z54 - 1, hz9, i54 + 1, hy9, b371, b372, b373, b374, b375, b376, b377, hi9, (by rw [hn9]; exact b379), (by rw [hn9]; exact b380), g382, r383, (by rw [hn9, hw365, hw366, hw367]; exact r368), r384, r385⟩
   ·
    intro vs ls H388 E388 st hE
    have f389 : (toldT ms ks (j : Int) v25_2 i54).f = false := bf st 0
    obtain ⟨w390, hw390⟩ : ∃ z, z = (wrapF (fop .sub .f32 r295_2 v25_2)) := ⟨_, rfl⟩
    obtain ⟨w392, hw392⟩ : ∃ z, z = (fop .mul .f32 v74_5 r295_0) := ⟨_, rfl⟩
    obtain ⟨w393, hw393⟩ : ∃ z, z = (fop .mul .f32 v74_5 r295_1) := ⟨_, rfl⟩
    obtain ⟨w394, hw394⟩ : ∃ z, z = (fop .mul .f32 v74_5 (wrapF (fop .sub .f32 r295_2 v25_2))) := ⟨_, rfl⟩
    have r395 : H388.get p7 = some (.row [.flt .f32 (fop .mul .f32 v74_5 r295_0), .flt .f32 (fop .mul .f32 v74_5 r295_1), .flt .f32 (fop .mul .f32 v74_5 (wrapF (fop .sub .f32 r295_2 v25_2)))] true) := row_whole st.inn 6 (l := p7) (b := 0) rfl (by kernel_rfl)
    obtain ⟨w396, hw396⟩ : ∃ z, z = (IntKind.wrap .i64 ((i54 : Int) + 1)) := ⟨_, rfl⟩
    have b397 : E388 23 = .int .i64 w396 := by rw [hw396]; exact eo st hE 23 _
    have b398 := eo st hE 22 (.int .i64 (ks.length : Int))
    have b399 := eo st hE 21 Sk
    have b400 := eo st hE 1 (.int .i64 (j : Int))
    have b401 := eo st hE 2 (.ptr p3 0)
    have b402 := eo st hE 9 (.ptr p31 0)
    have b403 := eo st hE 6 (.ptr p7 0)
    have b404 := eo st hE 4 (.ptr p11 0)
    have b405 := eo st hE 7 (.flt .f32 v74_5)
    have b406 := eo st hE 8 (.bool true)
    have g408 : Grew H H388 := grew_own g345 st.inn.kept ⟨op253, ⟨op7, trivial⟩⟩
    have r409 := kept_at st.inn.kept r346 ⟨by first | assumption | exact Apart.symm (by assumption), ⟨by first | assumption | exact Apart.symm (by assumption), trivial⟩⟩
    have r410 := kept_at st.inn.kept r347 ⟨by first | assumption | exact Apart.symm (by assumption), ⟨by first | assumption | exact Apart.symm (by assumption), trivial⟩⟩
    have r411 := kept_at st.inn.kept r348 ⟨by first | assumption | exact Apart.symm (by assumption), ⟨by first | assumption | exact Apart.symm (by assumption), trivial⟩⟩
    clear st hE vs ls
    have hz9 : z54 - 1 < z54 := by omega
    have hy9 : z54 - 1 + (i54 + 1) = ks.length := by omega
    have hi9 : E388 23 = .int .i64 ((i54 + 1 : Nat) : Int) := by rw [b397, hw396, wrap64 (by omega)]
    have hn9 : (toldT ms ks (j : Int) v25_2 (i54 + 1)) = ⟨w392, w393, w394, v74_5, true⟩ := by
     show toldS _ _ _ _ _ = _; unfold toldS; rw [he74]; rw [toldP_link, if_neg (by omega), if_pos (by omega)]
     rw [show ∀ a : Nat, (a : Int).toNat = a from fun _ => rfl, he353, hmr294, hmr295]
     show tellW _ _ _ _ = _; unfold tellW; rw [show (toldT ms ks (j : Int) v25_2 i54).f = false from by simpa using f389]
     simp only [hw390, hw392, hw393, hw394, hw396, linkW, if_true, Bool.false_eq_true, if_false]
    exact res_norm (by kernel_rfl) ⟨z54 - 1, hz9, i54 + 1, hy9, b398, b399, b400, b401, b402, b403, b404, hi9, (by rw [hn9]; exact b405), (by rw [hn9]; exact b406), g408, r409, (by rw [hn9, hw392, hw393, hw394]; exact r395), r410, r411⟩
  ·
   intro vs ls H414 E414 st hE
   have f415 : ¬ ((j : Int) = (v74_0 : Int)) := df st 0
   have f416 : ¬ ((j : Int) = (v74_1 : Int)) := df st 1
   obtain ⟨w417, hw417⟩ : ∃ z, z = (IntKind.wrap .i64 ((i54 : Int) + 1)) := ⟨_, rfl⟩
   have b418 : E414 23 = .int .i64 w417 := by rw [hw417]; exact eo st hE 23 _
   have b419 := eo st hE 22 (.int .i64 (ks.length : Int))
   have b420 := eo st hE 21 Sk
   have b421 := eo st hE 1 (.int .i64 (j : Int))
   have b422 := eo st hE 2 (.ptr p3 0)
   have b423 := eo st hE 9 (.ptr p31 0)
   have b424 := eo st hE 6 (.ptr p7 0)
   have b425 := eo st hE 4 (.ptr p11 0)
   have b426 := eo st hE 7 (.flt .f32 (toldT ms ks (j : Int) v25_2 i54).w)
   have b427 := eo st hE 8 (.bool (toldT ms ks (j : Int) v25_2 i54).f)
   have g428 : Grew H56 H414 := (gk st)
   have g429 : Grew H H414 := Grew.trans g69 g428
   have r430 := g428.at r70
   have r431 := g428.at r71
   have r432 := g428.at r72
   have r433 := g428.at r73
   clear st hE vs ls
   have hz9 : z54 - 1 < z54 := by omega
   have hy9 : z54 - 1 + (i54 + 1) = ks.length := by omega
   have hi9 : E414 23 = .int .i64 ((i54 + 1 : Nat) : Int) := by rw [b418, hw417, wrap64 (by omega)]
   have hn9 : (toldT ms ks (j : Int) v25_2 (i54 + 1)) = (toldT ms ks (j : Int) v25_2 i54) := by
    show toldS _ _ _ _ _ = _; unfold toldS; rw [he74]; rw [toldP_link, if_neg (by omega), if_neg (by omega)]
   exact res_norm (by kernel_rfl) ⟨z54 - 1, hz9, i54 + 1, hy9, b419, b420, b421, b422, b423, b424, b425, hi9, (by rw [hn9]; exact b426), (by rw [hn9]; exact b427), g429, r430, (by rw [hn9]; exact r431), r432, r433⟩
 ·
  intro vs ls H435 E435 st hE
  have f436 : ¬ ((i54 : Int) < (ks.length : Int)) := df st 0
  have b437 := eo st hE 23 (.int .i64 (i54 : Int))
  have b438 := eo st hE 22 (.int .i64 (ks.length : Int))
  obtain ⟨w439, hw439⟩ : ∃ z, z = (decide ((i54 : Int) < (ks.length : Int))) := ⟨_, rfl⟩
  have b440 : E435 24 = .bool w439 := by rw [hw439]; exact eo st hE 24 _
  have b441 := eo st hE 21 Sk
  have b442 := eo st hE 1 (.int .i64 (j : Int))
  have b443 := eo st hE 2 (.ptr p3 0)
  have b444 := eo st hE 9 (.ptr p31 0)
  have b445 := eo st hE 8 (.bool (toldT ms ks (j : Int) v25_2 i54).f)
  have b446 := eo st hE 6 (.ptr p7 0)
  have b447 := eo st hE 7 (.flt .f32 (toldT ms ks (j : Int) v25_2 i54).w)
  have b448 := eo st hE 4 (.ptr p11 0)
  have g449 : Grew Hi54 H435 := (gk st)
  have g450 : Grew H H435 := Grew.trans gt54 g449
  have r451 := g449.at r54_0
  have r452 := g449.at r54_1
  have r453 := g449.at r54_2
  have r454 := g449.at r54_3
  clear st hE vs ls
  refine res_exit (id := 0) (by kernel_rfl) ?_
  have q455 := q55.app (.cons ⟨_, rfl⟩ .nil : KdsL [.bool] [.bool w439])
  refine run_mc (φ := φP) (pm := pmPR 3 [] 10) 20 (ws := [⟨p3, 0, [n1 0, n1 1], false⟩, ⟨p7, 0, [nF 10, nF 11, nF 12], false⟩, ⟨p31, 0, [nF 3, nF 4, nF 5], false⟩, ⟨p11, 0, [.lit (.flt .f32 (some 0)), .lit (.flt .f32 (some 0)), .lit (.flt .f32 (some 0))], true⟩]) (env := [(23, nI 7), (22, nI 6), (24, nB 13), (21, n1 1), (1, nI 2), (2, .ptr 0 0), (9, .ptr 2 0), (8, nB 9), (6, .ptr 1 0), (7, nF 8), (4, .ptr 3 0)]) q455 (.cons (wR r451 q455) (.cons (wR r452 q455) (.cons (wR r454 q455) (.cons (wO r453 q455) .nil)))) (sepD (by repeat (first | exact .nil | refine .cons (by first | assumption | exact Apart.symm (by assumption)) ?_))) .nil (eC q455 (.cons b437 (.cons b438 (.cons b440 (.cons b441 (.cons b442 (.cons b443 (.cons b444 (.cons b445 (.cons b446 (.cons b447 (.cons b448 .nil)))))))))))) tb_ok apP_ok ?_
  refine all1 (by kernel_rfl) ?_
  intro vs ls H456 E456 st hE
  refine res_ex (by kernel_rfl) (end_flat st.inn hE (.inr rfl) (a := .tuple [.agg [.flt .f32 (fop .quo .f32 (toldT ms ks (j : Int) v25_2 i54).a (toldT ms ks (j : Int) v25_2 i54).w), .flt .f32 (fop .quo .f32 (toldT ms ks (j : Int) v25_2 i54).b (toldT ms ks (j : Int) v25_2 i54).w), .flt .f32 (wrapF (fop .add .f32 v25_2 (fop .quo .f32 (toldT ms ks (j : Int) v25_2 i54).c (toldT ms ks (j : Int) v25_2 i54).w)))], .bool (toldT ms ks (j : Int) v25_2 i54).f]) (by kernel_rfl) (grew_own g450 (st.inn.kept) ⟨op11, trivial⟩) rfl ⟨?_, rfl⟩)
  unfold toldF; rw [show ((j : Nat) : Int).toNat = j from rfl, he25, show headA [.flt .f32 v25_0, .flt .f32 v25_1, .flt .f32 v25_2] = v25_2 from rfl, show ks.length = i54 by omega]
theorem k_l06Told (H : AHeap) (ms : List (List AV)) (hr : Recs KP ms) (S : AV) (hS : SlL H 3 ms S) (hmx : ms.length < 2 ^ 40) (ks : List (List AV)) (hrk : Recs KL ks) (Sk : AV) (hSk : SlL H 6 ks Sk) (hmxk : ks.length < 2 ^ 40) (hok : okG ms ks = true) (j : Nat) (hj : j < ms.length) (lg : Nat) (hg : H.get lg = some (.row [S, Sk] true)) : APure Try.prog 104 [.ptr lg 0, .int .i64 (j : Int)] H (.tuple [.agg (toldF ms ks (j : Int)).1, .bool (toldF ms ks (j : Int)).2]) := by
 refine res_start h_spec_l06Told (by simp) ?_
 have q1 : KdsL [.one, .one, KI] [S, Sk, .int .i64 (j : Int)] := .cons (slOne hS) (.cons (slOne hSk) (.cons ⟨_, rfl⟩ .nil))
 refine run_mc (φ := φP) (pm := pmPR 1 [] 0) 20 (ws := [⟨lg, 0, [n1 0, n1 1], false⟩]) (env := [(0, .ptr 0 0), (1, nI 2)]) q1 (.cons (wR hg q1) .nil) (sepOk_ro rfl) .nil (eC q1 (.cons (t := 0) rfl (.cons (t := 1) rfl .nil))) tb_ok apP_ok ?_
 refine all1 (by kernel_rfl) ?_
 intro vs ls H2 E2 st hE
 obtain ⟨p3, e4, r5, n6⟩ := ptr_of st.inn hE 4 1 (by kernel_rfl) (ds := [.flt .f32 (some 0), .flt .f32 (some 0), .flt .f32 (some 0)]) (by kernel_rfl)
 have op3 : H.next ≤ p3 := Nat.le_trans (Nat.le_refl _) (n6 (Nat.le_of_ble_eq_true rfl))
 have ne7 := apn hg (n6 (Nat.le_of_ble_eq_true rfl))
 have b8 := eo st hE 19 S
 have b9 := eo st hE 20 (.int .i64 (j : Int))
 have b10 := eo st hE 0 (.ptr lg 0)
 have b11 := eo st hE 1 (.int .i64 (j : Int))
 have g12 : Grew H H2 := (gk st)
 have g13 : Grew H H2 := Grew.trans (Grew.refl _) g12
 have r14 := g12.at hg
 clear st hE vs ls
 have hlt15 : j < ms.length := by omega
 obtain ⟨lS15, cap15, rest15, wr15, eS15, gB15⟩ := hS.isSl hlt15
 have gS15 := g13.at gB15
 have ne16 := apn gB15 op3
 obtain ⟨v15_0, v15_1, v15_2, hm15, ho15_0, ho15_1, ho15_2⟩ := partsPose (hr.get hlt15)
 have he15 : ms.getD j [] = [.flt .f32 v15_0, .flt .f32 v15_1, .flt .f32 v15_2] := by rw [← hm15, List.getD_eq_getElem?_getD, List.getElem?_eq_getElem hlt15]; rfl
 have q17 := q1.app (.cons ⟨_, rfl, ho15_0⟩ (.cons ⟨_, rfl, ho15_1⟩ (.cons ⟨_, rfl, ho15_2⟩ .nil)) : KdsL [KF, KF, KF] [.flt .f32 v15_0, .flt .f32 v15_1, .flt .f32 v15_2])
 refine run_mc (φ := φP) (pm := pmPR 3 [(.ia 3 (n1 0) (nI 2), .ptr 2 0)] 0) 20 (ws := [⟨lg, 0, [n1 0, n1 1], false⟩, ⟨p3, 0, [.lit (.flt .f32 (some 0)), .lit (.flt .f32 (some 0)), .lit (.flt .f32 (some 0))], false⟩, ⟨lS15, (j * 3), [nF 3, nF 4, nF 5], false⟩]) (env := [(19, n1 0), (20, nI 2), (0, .ptr 0 0), (1, nI 2), (4, .ptr 1 0)]) q17 (.cons (wR r14 q17) (.cons (wR r5 q17) (.cons (win_elem hr gS15 hlt15 rfl (by rw [hm15]; exact (dL q17))) .nil))) (sepOk_ro rfl) (.cons (rule_iaS (k := j) (dE q17) eS15 (dE q17) hlt15 rfl) .nil) (eC q17 (.cons b8 (.cons b9 (.cons b10 (.cons b11 (.cons e4 .nil)))))) tb_ok apP_ok ?_
 refine all1 (by kernel_rfl) ?_
 intro vs ls H18 E18 st hE
 obtain ⟨p19, e20, r21, n22⟩ := ptr_of st.inn hE 6 3 (by kernel_rfl) (ds := [.flt .f32 v15_0, .flt .f32 v15_1, .flt .f32 v15_2]) (by kernel_rfl)
 have op19 : H.next ≤ p19 := Nat.le_trans g13.next (n22 (Nat.le_of_ble_eq_true rfl))
 obtain ⟨p23, e24, r25, n26⟩ := ptr_of st.inn hE 7 4 (by kernel_rfl) (ds := [.flt .f32 (some 0), .flt .f32 (some 0), .flt .f32 (some 0)]) (by kernel_rfl)
 have op23 : H.next ≤ p23 := Nat.le_trans g13.next (n26 (Nat.le_of_ble_eq_true rfl))
 have ne27 : Apart p19 p23 := ⟨ptr_ne st.inn hE 6 3 7 4 (by kernel_rfl) (by kernel_rfl) (cs := [.nd 3 (.flt .f32), .nd 4 (.flt .f32), .nd 5 (.flt .f32)]) (by kernel_rfl) (by decide) e20 e24⟩
 have ne28 := apn r14 (n22 (Nat.le_of_ble_eq_true rfl))
 have ne29 := apn r5 (n22 (Nat.le_of_ble_eq_true rfl))
 have ne30 := apn gS15 (n22 (Nat.le_of_ble_eq_true rfl))
 have ne31 := apn r14 (n26 (Nat.le_of_ble_eq_true rfl))
 have ne32 := apn r5 (n26 (Nat.le_of_ble_eq_true rfl))
 have ne33 := apn gS15 (n26 (Nat.le_of_ble_eq_true rfl))
 have b34 := eo st hE 10 (.int .i64 0)
 have b35 := eo st hE 0 (.ptr lg 0)
 have b36 := eo st hE 1 (.int .i64 (j : Int))
 have b37 := eo st hE 9 (.bool true)
 have b38 := eo st hE 8 (.flt .f32 (some 0))
 have b39 := eo st hE 4 (.ptr p3 0)
 have g40 : Grew H2 H18 := (gk st)
 have g41 : Grew H H18 := Grew.trans g13 g40
 have r42 := g40.at r14
 have r43 := g40.at r5
 clear st hE vs ls
 refine res_loop (by kernel_rfl) (fun z E H' => ∃ (i : Nat), z + i = ks.length ∧ E 0 = .ptr lg 0 ∧ E 1 = .int .i64 (j : Int) ∧ E 6 = .ptr p19 0 ∧ E 7 = .ptr p23 0 ∧ E 4 = .ptr p3 0 ∧ E 10 = .int .i64 (i : Int) ∧ E 8 = .flt .f32 (toldT ms ks (j : Int) v15_2 i).w ∧ E 9 = .bool (!(toldT ms ks (j : Int) v15_2 i).f) ∧ Grew H H' ∧ H'.get lg = some (.row [S, Sk] true) ∧ H'.get p3 = some (.row [.flt .f32 (some 0), .flt .f32 (some 0), .flt .f32 (some 0)] true) ∧ H'.get p19 = some (.row [.flt .f32 v15_0, .flt .f32 v15_1, .flt .f32 v15_2] true) ∧ H'.get p23 = some (.row [.flt .f32 (toldT ms ks (j : Int) v15_2 i).a, .flt .f32 (toldT ms ks (j : Int) v15_2 i).b, .flt .f32 (toldT ms ks (j : Int) v15_2 i).c] true)) (ks.length) ⟨0, by omega, b35, b36, e20, e24, b39, b34, b38, b37, g41, r42, r43, r21, r25⟩ ?_
 rintro z45 Ei45 Hi45 ⟨i45, hz45, c45_0, c45_1, c45_6, c45_7, c45_4, ci45, cv45_8, cv45_9, gt45, r45_0, r45_1, r45_2, r45_3⟩
 have q46 := q17.app (.cons ⟨_, rfl⟩ (.cons ⟨_, rfl, (toldT_ok ms hrk (j : Int) v15_2 i45 (by omega)).2.2.2⟩ (.cons ⟨_, rfl⟩ (.cons ⟨_, rfl, (toldT_ok ms hrk (j : Int) v15_2 i45 (by omega)).1⟩ (.cons ⟨_, rfl, (toldT_ok ms hrk (j : Int) v15_2 i45 (by omega)).2.1⟩ (.cons ⟨_, rfl, (toldT_ok ms hrk (j : Int) v15_2 i45 (by omega)).2.2.1⟩ (.cons ⟨_, rfl⟩ .nil)))))) : KdsL [KI, KF, .bool, KF, KF, KF, KI] [.int .i64 (i45 : Int), .flt .f32 (toldT ms ks (j : Int) v15_2 i45).w, .bool (!(toldT ms ks (j : Int) v15_2 i45).f), .flt .f32 (toldT ms ks (j : Int) v15_2 i45).a, .flt .f32 (toldT ms ks (j : Int) v15_2 i45).b, .flt .f32 (toldT ms ks (j : Int) v15_2 i45).c, .int .i64 (ks.length : Int)])
 refine run_mc (φ := φP) (pm := pmPR 4 [(.len (n1 1), nI 12)] 10) 20 (ws := [⟨lg, 0, [n1 0, n1 1], false⟩, ⟨p3, 0, [.lit (.flt .f32 (some 0)), .lit (.flt .f32 (some 0)), .lit (.flt .f32 (some 0))], false⟩, ⟨p19, 0, [nF 3, nF 4, nF 5], false⟩, ⟨p23, 0, [nF 9, nF 10, nF 11], false⟩]) (env := [(0, .ptr 0 0), (1, nI 2), (6, .ptr 2 0), (7, .ptr 3 0), (4, .ptr 1 0), (10, nI 6), (8, nF 7), (9, nB 8)]) q46 (.cons (wR r45_0 q46) (.cons (wR r45_1 q46) (.cons (wR r45_2 q46) (.cons (wR r45_3 q46) .nil)))) (sepOk_ro rfl) (.cons (⟨_, _, (dE q46), (dE q46), slLen hSk⟩) .nil) (eC q46 (.cons c45_0 (.cons c45_1 (.cons c45_6 (.cons c45_7 (.cons c45_4 (.cons ci45 (.cons cv45_8 (.cons cv45_9 .nil))))))))) tb_ok apP_ok ?_
 refine all2 (by kernel_rfl) ?_ ?_
 ·
  intro vs ls H47 E47 st hE
  have f48 : (i45 : Int) < (ks.length : Int) := dt st 0
  have b49 := eo st hE 36 Sk
  have b50 := eo st hE 37 (.int .i64 (i45 : Int))
  have b51 := eo st hE 1 (.int .i64 (j : Int))
  have b52 := eo st hE 0 (.ptr lg 0)
  have b53 := eo st hE 6 (.ptr p19 0)
  have b54 := eo st hE 9 (.bool (!(toldT ms ks (j : Int) v15_2 i45).f))
  have b55 := eo st hE 7 (.ptr p23 0)
  have b56 := eo st hE 8 (.flt .f32 (toldT ms ks (j : Int) v15_2 i45).w)
  have b57 := eo st hE 10 (.int .i64 (i45 : Int))
  have b58 := eo st hE 4 (.ptr p3 0)
  have g59 : Grew Hi45 H47 := (gk st)
  have g60 : Grew H H47 := Grew.trans gt45 g59
  have r61 := g59.at r45_0
  have r62 := g59.at r45_1
  have r63 := g59.at r45_2
  have r64 := g59.at r45_3
  clear st hE vs ls
  have hlt65 : i45 < ks.length := by omega
  obtain ⟨lS65, cap65, rest65, wr65, eS65, gB65⟩ := hSk.isSl hlt65
  have gS65 := g60.at gB65
  have ne66 := apn gB65 op3
  have ne67 := apn gB65 op19
  have ne68 := apn gB65 op23
  obtain ⟨v65_0, v65_1, v65_2, v65_3, v65_4, v65_5, hm65, ho65_2, ho65_3, ho65_4, ho65_5, ha65, hb65, hne65⟩ := okG_link hok hrk i45 hlt65
  have he65 : ks.getD i45 [] = [.int .i64 (v65_0 : Int), .int .i64 (v65_1 : Int), .flt .f32 v65_2, .flt .f32 v65_3, .flt .f32 v65_4, .flt .f32 v65_5] := by rw [← hm65, List.getD_eq_getElem?_getD, List.getElem?_eq_getElem hlt65]; rfl
  have q69 := q46.app (.cons ⟨_, rfl⟩ (.cons ⟨_, rfl⟩ (.cons ⟨_, rfl, ho65_2⟩ (.cons ⟨_, rfl, ho65_3⟩ (.cons ⟨_, rfl, ho65_4⟩ (.cons ⟨_, rfl, ho65_5⟩ .nil))))) : KdsL [KI, KI, KF, KF, KF, KF] [.int .i64 (v65_0 : Int), .int .i64 (v65_1 : Int), .flt .f32 v65_2, .flt .f32 v65_3, .flt .f32 v65_4, .flt .f32 v65_5])
  refine run_mc (φ := φP) (pm := pmPR 5 [(.ia 6 (n1 1) (nI 6), .ptr 4 0)] 10) 20 (ws := [⟨lg, 0, [n1 0, n1 1], false⟩, ⟨p3, 0, [.lit (.flt .f32 (some 0)), .lit (.flt .f32 (some 0)), .lit (.flt .f32 (some 0))], false⟩, ⟨p19, 0, [nF 3, nF 4, nF 5], false⟩, ⟨p23, 0, [nF 9, nF 10, nF 11], false⟩, ⟨lS65, (i45 * 6), [nI 13, nI 14, nF 15, nF 16, nF 17, nF 18], false⟩]) (env := [(36, n1 1), (37, nI 6), (1, nI 2), (0, .ptr 0 0), (6, .ptr 2 0), (9, nB 8), (7, .ptr 3 0), (8, nF 7), (10, nI 6), (4, .ptr 1 0)]) q69 (.cons (wR r61 q69) (.cons (wR r62 q69) (.cons (wR r63 q69) (.cons (wR r64 q69) (.cons (win_elem hrk gS65 hlt65 rfl (by rw [hm65]; exact (dL q69))) .nil))))) (sepOk_ro rfl) (.cons (rule_iaS (k := i45) (dE q69) eS65 (dE q69) hlt65 rfl) .nil) (eC q69 (.cons b49 (.cons b50 (.cons b51 (.cons b52 (.cons b53 (.cons b54 (.cons b55 (.cons b56 (.cons b57 (.cons b58 .nil))))))))))) tb_ok apP_ok ?_
  refine all3 (by kernel_rfl) ?_ ?_ ?_
  ·
   intro vs ls H70 E70 st hE
   have f71 : (j : Int) = (v65_1 : Int) := dt st 0
   obtain ⟨p72, e73, r74, n75⟩ := ptr_of st.inn hE 12 5 (by kernel_rfl) (ds := [.flt .f32 (some 0), .flt .f32 (some 0), .flt .f32 (some 0)]) (by kernel_rfl)
   have op72 : H.next ≤ p72 := Nat.le_trans g60.next (n75 (Nat.le_of_ble_eq_true rfl))
   have ne76 := apn r61 (n75 (Nat.le_of_ble_eq_true rfl))
   have ne77 := apn r62 (n75 (Nat.le_of_ble_eq_true rfl))
   have ne78 := apn r63 (n75 (Nat.le_of_ble_eq_true rfl))
   have ne79 := apn r64 (n75 (Nat.le_of_ble_eq_true rfl))
   have ne80 := apn gS65 (n75 (Nat.le_of_ble_eq_true rfl))
   have b81 := eo st hE 50 S
   have b82 := eo st hE 54 (.int .i64 (v65_0 : Int))
   have b83 := eo st hE 11 (.ptr lS65 ((i45 * 6) + 0))
   have b84 := eo st hE 6 (.ptr p19 0)
   have b85 := eo st hE 9 (.bool (!(toldT ms ks (j : Int) v15_2 i45).f))
   have b86 := eo st hE 7 (.ptr p23 0)
   have b87 := eo st hE 8 (.flt .f32 (toldT ms ks (j : Int) v15_2 i45).w)
   have b88 := eo st hE 10 (.int .i64 (i45 : Int))
   have b89 := eo st hE 0 (.ptr lg 0)
   have b90 := eo st hE 1 (.int .i64 (j : Int))
   have b91 := eo st hE 4 (.ptr p3 0)
   have g92 : Grew H47 H70 := (gk st)
   have g93 : Grew H H70 := Grew.trans g60 g92
   have r94 := g92.at r61
   have r95 := g92.at r62
   have r96 := g92.at r63
   have r97 := g92.at r64
   have r98 := g92.at gS65
   clear st hE vs ls
   have hlt99 : v65_0 < ms.length := by omega
   obtain ⟨lS99, cap99, rest99, wr99, eS99, gB99⟩ := hS.isSl hlt99
   have gS99 := g93.at gB99
   have ne100 := apn gB99 op3
   have ne101 := apn gB99 op19
   have ne102 := apn gB99 op23
   have ne103 := apn gB99 op72
   obtain ⟨v99_0, v99_1, v99_2, hm99, ho99_0, ho99_1, ho99_2⟩ := partsPose (hr.get hlt99)
   have he99 : ms.getD v65_0 [] = [.flt .f32 v99_0, .flt .f32 v99_1, .flt .f32 v99_2] := by rw [← hm99, List.getD_eq_getElem?_getD, List.getElem?_eq_getElem hlt99]; rfl
   obtain ⟨r104_0, r104_1, r104_2, hmr104, or104_0, or104_1, or104_2⟩ := partsPose (compF_ok [.flt .f32 v99_0, .flt .f32 v99_1, .flt .f32 v99_2] [.flt .f32 v65_2, .flt .f32 v65_3, .flt .f32 v65_4])
   have q105 := q69.app (.cons ⟨_, rfl, ho99_0⟩ (.cons ⟨_, rfl, ho99_1⟩ (.cons ⟨_, rfl, ho99_2⟩ (.cons ⟨_, rfl, or104_0⟩ (.cons ⟨_, rfl, or104_1⟩ (.cons ⟨_, rfl, or104_2⟩ .nil))))) : KdsL [KF, KF, KF, KF, KF, KF] [.flt .f32 v99_0, .flt .f32 v99_1, .flt .f32 v99_2, .flt .f32 r104_0, .flt .f32 r104_1, .flt .f32 r104_2])
   refine run_mc (φ := φP) (pm := pmPR 6 [] 10) 20 (ws := [⟨lg, 0, [n1 0, n1 1], false⟩, ⟨p3, 0, [.lit (.flt .f32 (some 0)), .lit (.flt .f32 (some 0)), .lit (.flt .f32 (some 0))], false⟩, ⟨p19, 0, [nF 3, nF 4, nF 5], false⟩, ⟨p23, 0, [nF 9, nF 10, nF 11], false⟩, ⟨lS65, (i45 * 6), [nI 13, nI 14, nF 15, nF 16, nF 17, nF 18], false⟩, ⟨lS99, (v65_0 * 3), [nF 19, nF 20, nF 21], false⟩, ⟨p72, 0, [.lit (.flt .f32 (some 0)), .lit (.flt .f32 (some 0)), .lit (.flt .f32 (some 0))], true⟩]) (env := [(50, n1 0), (54, nI 13), (11, .ptr 4 0), (12, .ptr 6 0), (6, .ptr 2 0), (9, nB 8), (7, .ptr 3 0), (8, nF 7), (10, nI 6), (0, .ptr 0 0), (1, nI 2), (4, .ptr 1 0)]) q105 (.cons (wR r94 q105) (.cons (wR r95 q105) (.cons (wR r96 q105) (.cons (wR r97 q105) (.cons (win_elem hrk r98 hlt65 rfl (by rw [hm65]; exact (dL q105))) (.cons (win_elem hr gS99 hlt99 rfl (by rw [hm99]; exact (dL q105))) (.cons (wO r74 q105) .nil))))))) (sepD (by repeat (first | exact .nil | refine .cons (by first | assumption | exact Apart.symm (by assumption)) ?_))) .nil (eC q105 (.cons b81 (.cons b82 (.cons b83 (.cons e73 (.cons b84 (.cons b85 (.cons b86 (.cons b87 (.cons b88 (.cons b89 (.cons b90 (.cons b91 .nil))))))))))))) tb_ok apP_ok ?_
   refine all1 (by kernel_rfl) ?_
   intro vs ls H106 E106 st hE
   have b107 := eo st hE 50 S
   have b108 := eo st hE 54 (.int .i64 (v65_0 : Int))
   have b109 := eo st hE 11 (.ptr lS65 ((i45 * 6) + 0))
   have b110 := eo st hE 12 (.ptr p72 0)
   have b111 := eo st hE 6 (.ptr p19 0)
   have b112 := eo st hE 9 (.bool (!(toldT ms ks (j : Int) v15_2 i45).f))
   have b113 := eo st hE 7 (.ptr p23 0)
   have b114 := eo st hE 8 (.flt .f32 (toldT ms ks (j : Int) v15_2 i45).w)
   have b115 := eo st hE 10 (.int .i64 (i45 : Int))
   have b116 := eo st hE 0 (.ptr lg 0)
   have b117 := eo st hE 1 (.int .i64 (j : Int))
   have b118 := eo st hE 4 (.ptr p3 0)
   have g119 : Grew H70 H106 := (gk st)
   have g120 : Grew H H106 := Grew.trans g93 g119
   have r121 := g119.at r94
   have r122 := g119.at r95
   have r123 := g119.at r96
   have r124 := g119.at r97
   have r125 := g119.at r98
   have r127 := g119.at r74
   clear st hE vs ls
   have hlt128 : v65_0 < ms.length := by omega
   obtain ⟨lS128, cap128, rest128, wr128, eS128, gB128⟩ := hS.isSl hlt128
   have gS128 := g120.at gB128
   have ne129 := apn gB128 op3
   have ne130 := apn gB128 op19
   have ne131 := apn gB128 op23
   have ne132 := apn gB128 op72
   obtain ⟨v128_0, v128_1, v128_2, hm128, ho128_0, ho128_1, ho128_2⟩ := partsPose (hr.get hlt128)
   have he128 : ms.getD v65_0 [] = [.flt .f32 v128_0, .flt .f32 v128_1, .flt .f32 v128_2] := by rw [← hm128, List.getD_eq_getElem?_getD, List.getElem?_eq_getElem hlt128]; rfl
   have hq128 := he99.symm.trans he128
   simp only [List.cons.injEq, AV.flt.injEq, AV.int.injEq, Int.natCast_inj, true_and, and_true] at hq128
   obtain ⟨rfl, rfl, rfl⟩ := hq128
   have q133 := q105.app (.cons ⟨_, rfl, ho128_0⟩ (.cons ⟨_, rfl, ho128_1⟩ (.cons ⟨_, rfl, ho128_2⟩ .nil)) : KdsL [KF, KF, KF] [.flt .f32 v99_0, .flt .f32 v99_1, .flt .f32 v99_2])
   refine run_mc (φ := φP) (pm := pmPR 5 [] 10) 20 (ws := [⟨lg, 0, [n1 0, n1 1], false⟩, ⟨p3, 0, [.lit (.flt .f32 (some 0)), .lit (.flt .f32 (some 0)), .lit (.flt .f32 (some 0))], false⟩, ⟨p19, 0, [nF 3, nF 4, nF 5], false⟩, ⟨lS65, (i45 * 6), [nI 13, nI 14, nF 15, nF 16, nF 17, nF 18], false⟩, ⟨lS128, (v65_0 * 3), [nF 25, nF 26, nF 27], false⟩, ⟨p72, 0, [.lit (.flt .f32 (some 0)), .lit (.flt .f32 (some 0)), .lit (.flt .f32 (some 0))], true⟩, ⟨p23, 0, [nF 9, nF 10, nF 11], true⟩]) (env := [(50, n1 0), (54, nI 13), (11, .ptr 3 0), (12, .ptr 5 0), (6, .ptr 2 0), (9, nB 8), (7, .ptr 6 0), (8, nF 7), (10, nI 6), (0, .ptr 0 0), (1, nI 2), (4, .ptr 1 0)]) q133 (.cons (wR r121 q133) (.cons (wR r122 q133) (.cons (wR r123 q133) (.cons (win_elem hrk r125 hlt65 rfl (by rw [hm65]; exact (dL q133))) (.cons (win_elem hr gS128 hlt128 rfl (by rw [hm128]; exact (dL q133))) (.cons (wO r127 q133) (.cons (wO r124 q133) .nil))))))) (sepD (by repeat (first | exact .nil | refine .cons (by first | assumption | exact Apart.symm (by assumption)) ?_))) .nil (eC q133 (.cons b107 (.cons b108 (.cons b109 (.cons b110 (.cons b111 (.cons b112 (.cons b113 (.cons b114 (.cons b115 (.cons b116 (.cons b117 (.cons b118 .nil))))))))))))) tb_ok apP_ok ?_
   refine all1 (by kernel_rfl) ?_
   intro vs ls H134 E134 st hE
   have b135 := eo st hE 50 S
   have b136 := eo st hE 54 (.int .i64 (v65_0 : Int))
   have b137 := eo st hE 11 (.ptr lS65 ((i45 * 6) + 0))
   have b138 := eo st hE 12 (.ptr p72 0)
   have b139 := eo st hE 6 (.ptr p19 0)
   have b140 := eo st hE 9 (.bool (!(toldT ms ks (j : Int) v15_2 i45).f))
   have b141 := eo st hE 7 (.ptr p23 0)
   have b142 := eo st hE 8 (.flt .f32 (toldT ms ks (j : Int) v15_2 i45).w)
   have b143 := eo st hE 10 (.int .i64 (i45 : Int))
   have b144 := eo st hE 0 (.ptr lg 0)
   have b145 := eo st hE 1 (.int .i64 (j : Int))
   have b146 := eo st hE 4 (.ptr p3 0)
   have g147 : Grew H106 H134 := (gk st)
   have g148 : Grew H H134 := Grew.trans g120 g147
   have r149 := g147.at r121
   have r150 := g147.at r122
   have r151 := g147.at r123
   have r152 := g147.at r125
   have r154 := g147.at r127
   have r155 := g147.at r124
   clear st hE vs ls
   have hlt156 : v65_0 < ms.length := by omega
   obtain ⟨lS156, cap156, rest156, wr156, eS156, gB156⟩ := hS.isSl hlt156
   have gS156 := g148.at gB156
   have ne157 := apn gB156 op3
   have ne158 := apn gB156 op19
   have ne159 := apn gB156 op72
   have ne160 := apn gB156 op23
   obtain ⟨v156_0, v156_1, v156_2, hm156, ho156_0, ho156_1, ho156_2⟩ := partsPose (hr.get hlt156)
   have he156 : ms.getD v65_0 [] = [.flt .f32 v156_0, .flt .f32 v156_1, .flt .f32 v156_2] := by rw [← hm156, List.getD_eq_getElem?_getD, List.getElem?_eq_getElem hlt156]; rfl
   have hq156 := he128.symm.trans he156
   simp only [List.cons.injEq, AV.flt.injEq, AV.int.injEq, Int.natCast_inj, true_and, and_true] at hq156
   obtain ⟨rfl, rfl, rfl⟩ := hq156
   have q161 := q133.app (.cons ⟨_, rfl, ho156_0⟩ (.cons ⟨_, rfl, ho156_1⟩ (.cons ⟨_, rfl, ho156_2⟩ .nil)) : KdsL [KF, KF, KF] [.flt .f32 v99_0, .flt .f32 v99_1, .flt .f32 v99_2])
   refine run_mc (φ := φP) (pm := pmPR 5 [(.ia 3 (n1 0) (nI 13), .ptr 4 0), (.call 88 [.agg [nF 28, nF 29, nF 30], .agg [nF 15, nF 16, nF 17]], .agg [nF 22, nF 23, nF 24])] 10) 20 (ws := [⟨lg, 0, [n1 0, n1 1], false⟩, ⟨p3, 0, [.lit (.flt .f32 (some 0)), .lit (.flt .f32 (some 0)), .lit (.flt .f32 (some 0))], false⟩, ⟨p19, 0, [nF 3, nF 4, nF 5], false⟩, ⟨lS65, (i45 * 6), [nI 13, nI 14, nF 15, nF 16, nF 17, nF 18], false⟩, ⟨lS156, (v65_0 * 3), [nF 28, nF 29, nF 30], false⟩, ⟨p72, 0, [.lit (.flt .f32 (some 0)), .lit (.flt .f32 (some 0)), .lit (.flt .f32 (some 0))], true⟩, ⟨p23, 0, [nF 9, nF 10, nF 11], true⟩]) (env := [(50, n1 0), (54, nI 13), (11, .ptr 3 0), (12, .ptr 5 0), (6, .ptr 2 0), (9, nB 8), (7, .ptr 6 0), (8, nF 7), (10, nI 6), (0, .ptr 0 0), (1, nI 2), (4, .ptr 1 0)]) q161 (.cons (wR r149 q161) (.cons (wR r150 q161) (.cons (wR r151 q161) (.cons (win_elem hrk r152 hlt65 rfl (by rw [hm65]; exact (dL q161))) (.cons (win_elem hr gS156 hlt156 rfl (by rw [hm156]; exact (dL q161))) (.cons (wO r154 q161) (.cons (wO r155 q161) .nil))))))) (sepD (by repeat (first | exact .nil | refine .cons (by first | assumption | exact Apart.symm (by assumption)) ?_))) (.cons (rule_iaS (k := v65_0) (dE q161) eS156 (dE q161) hlt156 rfl) (.cons (rule_call (args := [.agg [.flt .f32 v99_0, .flt .f32 v99_1, .flt .f32 v99_2], .agg [.flt .f32 v65_2, .flt .f32 v65_3, .flt .f32 v65_4]]) (r := .agg [.flt .f32 r104_0, .flt .f32 r104_1, .flt .f32 r104_2]) (dL q161) (dE q161) (fun H9 hk => (by rw [← hmr104]; exact k_l06Compose [.flt .f32 v99_0, .flt .f32 v99_1, .flt .f32 v99_2] [.flt .f32 v65_2, .flt .f32 v65_3, .flt .f32 v65_4] (.cons ⟨_, rfl, ho156_0⟩ (.cons ⟨_, rfl, ho156_1⟩ (.cons ⟨_, rfl, ho156_2⟩ .nil))) (.cons ⟨_, rfl, ho65_2⟩ (.cons ⟨_, rfl, ho65_3⟩ (.cons ⟨_, rfl, ho65_4⟩ .nil))) H9))) .nil)) (eC q161 (.cons b135 (.cons b136 (.cons b137 (.cons b138 (.cons b139 (.cons b140 (.cons b141 (.cons b142 (.cons b143 (.cons b144 (.cons b145 (.cons b146 .nil))))))))))))) tb_ok apP_ok ?_
   refine all2 (by kernel_rfl) ?_ ?_
   ·
    intro vs ls H162 E162 st hE
    have f163 : (!(toldT ms ks (j : Int) v15_2 i45).f) = true := bf st 0
    obtain ⟨w165, hw165⟩ : ∃ z, z = (fop .mul .f32 v65_5 r104_0) := ⟨_, rfl⟩
    obtain ⟨w166, hw166⟩ : ∃ z, z = (fop .mul .f32 v65_5 r104_1) := ⟨_, rfl⟩
    obtain ⟨w167, hw167⟩ : ∃ z, z = (fop .mul .f32 v65_5 (wrapF (fop .sub .f32 r104_2 v15_2))) := ⟨_, rfl⟩
    have r168 : H162.get p23 = some (.row [.flt .f32 (fop .mul .f32 v65_5 r104_0), .flt .f32 (fop .mul .f32 v65_5 r104_1), .flt .f32 (fop .mul .f32 v65_5 (wrapF (fop .sub .f32 r104_2 v15_2)))] true) := row_whole st.inn 6 (l := p23) (b := 0) rfl (by kernel_rfl)
    obtain ⟨w169, hw169⟩ : ∃ z, z = (IntKind.wrap .i64 ((i45 : Int) + 1)) := ⟨_, rfl⟩
    have b170 : E162 10 = .int .i64 w169 := by rw [hw169]; exact eo st hE 10 _
    have b171 := eo st hE 0 (.ptr lg 0)
    have b172 := eo st hE 1 (.int .i64 (j : Int))
    have b173 := eo st hE 6 (.ptr p19 0)
    have b174 := eo st hE 7 (.ptr p23 0)
    have b175 := eo st hE 4 (.ptr p3 0)
    have b176 := eo st hE 8 (.flt .f32 v65_5)
    have b177 := eo st hE 9 (.bool false)
    have g179 : Grew H H162 := grew_own g148 st.inn.kept ⟨op72, ⟨op23, trivial⟩⟩
    have r180 := kept_at st.inn.kept r149 ⟨by first | assumption | exact Apart.symm (by assumption), ⟨by first | assumption | exact Apart.symm (by assumption), trivial⟩⟩
    have r181 := kept_at st.inn.kept r150 ⟨by first | assumption | exact Apart.symm (by assumption), ⟨by first | assumption | exact Apart.symm (by assumption), trivial⟩⟩
    have r182 := kept_at st.inn.kept r151 ⟨by first | assumption | exact Apart.symm (by assumption), ⟨by first | assumption | exact Apart.symm (by assumption), trivial⟩⟩
    clear st hE vs ls
    have hz9 : z45 - 1 < z45 := by omega
    have hy9 : z45 - 1 + (i45 + 1) = ks.length := by omega
    have hi9 : E162 10 = .int .i64 ((i45 + 1 : Nat) : Int) := by rw [b170, hw169, wrap64 (by omega)]
    have hn9 : (toldT ms ks (j : Int) v15_2 (i45 + 1)) = ⟨w165, w166, w167, v65_5, true⟩ := by
     show toldS _ _ _ _ _ = _; unfold toldS; rw [he65]; rw [toldP_link, if_pos (by omega)]
     rw [show ∀ a : Nat, (a : Int).toNat = a from fun _ => rfl, he156, hmr104]
     show tellW _ _ _ _ = _; unfold tellW; rw [show (toldT ms ks (j : Int) v15_2 i45).f = false from by simpa using f163]
     simp only [hw165, hw166, hw167, hw169, linkW, if_true, Bool.false_eq_true, if_false]
    exact res_norm (by kernel_rfl) ⟨z45 - 1, hz9, i45 + 1, hy9, b171, b172, b173, b174, b175, hi9, (by rw [hn9]; exact b176), (by rw [hn9]; exact b177), g179, r180, r181, r182, (by rw [hn9, hw165, hw166, hw167]; exact r168)⟩
   ·
    intro vs ls H185 E185 st hE
    have f186 : (!(toldT ms ks (j : Int) v15_2 i45).f) = false := bf st 0
    obtain ⟨w188, hw188⟩ : ∃ z, z = (fop .add .f32 (toldT ms ks (j : Int) v15_2 i45).a (fop .mul .f32 v65_5 r104_0)) := ⟨_, rfl⟩
    obtain ⟨w189, hw189⟩ : ∃ z, z = (fop .add .f32 (toldT ms ks (j : Int) v15_2 i45).b (fop .mul .f32 v65_5 r104_1)) := ⟨_, rfl⟩
    obtain ⟨w190, hw190⟩ : ∃ z, z = (fop .add .f32 (toldT ms ks (j : Int) v15_2 i45).c (fop .mul .f32 v65_5 (wrapF (fop .sub .f32 r104_2 v15_2)))) := ⟨_, rfl⟩
    have r191 : H185.get p23 = some (.row [.flt .f32 (fop .add .f32 (toldT ms ks (j : Int) v15_2 i45).a (fop .mul .f32 v65_5 r104_0)), .flt .f32 (fop .add .f32 (toldT ms ks (j : Int) v15_2 i45).b (fop .mul .f32 v65_5 r104_1)), .flt .f32 (fop .add .f32 (toldT ms ks (j : Int) v15_2 i45).c (fop .mul .f32 v65_5 (wrapF (fop .sub .f32 r104_2 v15_2))))] true) := row_whole st.inn 6 (l := p23) (b := 0) rfl (by kernel_rfl)
    obtain ⟨w192, hw192⟩ : ∃ z, z = (IntKind.wrap .i64 ((i45 : Int) + 1)) := ⟨_, rfl⟩
    have b193 : E185 10 = .int .i64 w192 := by rw [hw192]; exact eo st hE 10 _
    have b194 := eo st hE 0 (.ptr lg 0)
    have b195 := eo st hE 1 (.int .i64 (j : Int))
    have b196 := eo st hE 6 (.ptr p19 0)
    have b197 := eo st hE 7 (.ptr p23 0)
    have b198 := eo st hE 4 (.ptr p3 0)
    obtain ⟨w199, hw199⟩ : ∃ z, z = (fop .add .f32 (toldT ms ks (j : Int) v15_2 i45).w v65_5) := ⟨_, rfl⟩
    have b200 : E185 8 = .flt .f32 w199 := by rw [hw199]; exact eo st hE 8 _
    have b201 := eo st hE 9 (.bool false)
    have g203 : Grew H H185 := grew_own g148 st.inn.kept ⟨op72, ⟨op23, trivial⟩⟩
    have r204 := kept_at st.inn.kept r149 ⟨by first | assumption | exact Apart.symm (by assumption), ⟨by first | assumption | exact Apart.symm (by assumption), trivial⟩⟩
    have r205 := kept_at st.inn.kept r150 ⟨by first | assumption | exact Apart.symm (by assumption), ⟨by first | assumption | exact Apart.symm (by assumption), trivial⟩⟩
    have r206 := kept_at st.inn.kept r151 ⟨by first | assumption | exact Apart.symm (by assumption), ⟨by first | assumption | exact Apart.symm (by assumption), trivial⟩⟩
    clear st hE vs ls
    have hz9 : z45 - 1 < z45 := by omega
    have hy9 : z45 - 1 + (i45 + 1) = ks.length := by omega
    have hi9 : E185 10 = .int .i64 ((i45 + 1 : Nat) : Int) := by rw [b193, hw192, wrap64 (by omega)]
    have hn9 : (toldT ms ks (j : Int) v15_2 (i45 + 1)) = ⟨w188, w189, w190, w199, true⟩ := by
     show toldS _ _ _ _ _ = _; unfold toldS; rw [he65]; rw [toldP_link, if_pos (by omega)]
     rw [show ∀ a : Nat, (a : Int).toNat = a from fun _ => rfl, he156, hmr104]
     show tellW _ _ _ _ = _; unfold tellW; rw [show (toldT ms ks (j : Int) v15_2 i45).f = true from by simpa using f186]
     simp only [hw188, hw189, hw190, hw192, hw199, linkW, if_true, Bool.false_eq_true, if_false]
    exact res_norm (by kernel_rfl) ⟨z45 - 1, hz9, i45 + 1, hy9, b194, b195, b196, b197, b198, hi9, (by rw [hn9]; exact b200), (by rw [hn9]; exact b201), g203, r204, r205, r206, (by rw [hn9, hw188, hw189, hw190]; exact r191)⟩
  ·
   intro vs ls H209 E209 st hE
   have f210 : (j : Int) = (v65_0 : Int) := dt st 0
   have f211 : ¬ ((j : Int) = (v65_1 : Int)) := df st 1
   obtain ⟨p212, e213, r214, n215⟩ := ptr_of st.inn hE 12 5 (by kernel_rfl) (ds := [.flt .f32 (some 0), .flt .f32 (some 0), .flt .f32 (some 0)]) (by kernel_rfl)
   have op212 : H.next ≤ p212 := Nat.le_trans g60.next (n215 (Nat.le_of_ble_eq_true rfl))
   have ne216 := apn r61 (n215 (Nat.le_of_ble_eq_true rfl))
   have ne217 := apn r62 (n215 (Nat.le_of_ble_eq_true rfl))
   have ne218 := apn r63 (n215 (Nat.le_of_ble_eq_true rfl))
   have ne219 := apn r64 (n215 (Nat.le_of_ble_eq_true rfl))
   have ne220 := apn gS65 (n215 (Nat.le_of_ble_eq_true rfl))
   have b221 := eo st hE 71 S
   have b222 := eo st hE 75 (.int .i64 (v65_1 : Int))
   have b223 := eo st hE 11 (.ptr lS65 ((i45 * 6) + 0))
   have b224 := eo st hE 6 (.ptr p19 0)
   have b225 := eo st hE 9 (.bool (!(toldT ms ks (j : Int) v15_2 i45).f))
   have b226 := eo st hE 7 (.ptr p23 0)
   have b227 := eo st hE 8 (.flt .f32 (toldT ms ks (j : Int) v15_2 i45).w)
   have b228 := eo st hE 10 (.int .i64 (i45 : Int))
   have b229 := eo st hE 0 (.ptr lg 0)
   have b230 := eo st hE 1 (.int .i64 (j : Int))
   have b231 := eo st hE 4 (.ptr p3 0)
   have g232 : Grew H47 H209 := (gk st)
   have g233 : Grew H H209 := Grew.trans g60 g232
   have r234 := g232.at r61
   have r235 := g232.at r62
   have r236 := g232.at r63
   have r237 := g232.at r64
   have r238 := g232.at gS65
   clear st hE vs ls
   have hlt239 : v65_1 < ms.length := by omega
   obtain ⟨lS239, cap239, rest239, wr239, eS239, gB239⟩ := hS.isSl hlt239
   have gS239 := g233.at gB239
   have ne240 := apn gB239 op3
   have ne241 := apn gB239 op19
   have ne242 := apn gB239 op23
   have ne243 := apn gB239 op212
   obtain ⟨v239_0, v239_1, v239_2, hm239, ho239_0, ho239_1, ho239_2⟩ := partsPose (hr.get hlt239)
   have he239 : ms.getD v65_1 [] = [.flt .f32 v239_0, .flt .f32 v239_1, .flt .f32 v239_2] := by rw [← hm239, List.getD_eq_getElem?_getD, List.getElem?_eq_getElem hlt239]; rfl
   obtain ⟨r244_0, r244_1, r244_2, hmr244, or244_0, or244_1, or244_2⟩ := partsPose (backF_ok [.flt .f32 v65_2, .flt .f32 v65_3, .flt .f32 v65_4])
   obtain ⟨r245_0, r245_1, r245_2, hmr245, or245_0, or245_1, or245_2⟩ := partsPose (compF_ok [.flt .f32 v239_0, .flt .f32 v239_1, .flt .f32 v239_2] [.flt .f32 r244_0, .flt .f32 r244_1, .flt .f32 r244_2])
   have q246 := q69.app (.cons ⟨_, rfl, ho239_0⟩ (.cons ⟨_, rfl, ho239_1⟩ (.cons ⟨_, rfl, ho239_2⟩ (.cons ⟨_, rfl, or244_0⟩ (.cons ⟨_, rfl, or244_1⟩ (.cons ⟨_, rfl, or244_2⟩ (.cons ⟨_, rfl, or245_0⟩ (.cons ⟨_, rfl, or245_1⟩ (.cons ⟨_, rfl, or245_2⟩ .nil)))))))) : KdsL [KF, KF, KF, KF, KF, KF, KF, KF, KF] [.flt .f32 v239_0, .flt .f32 v239_1, .flt .f32 v239_2, .flt .f32 r244_0, .flt .f32 r244_1, .flt .f32 r244_2, .flt .f32 r245_0, .flt .f32 r245_1, .flt .f32 r245_2])
   refine run_mc (φ := φP) (pm := pmPR 6 [] 10) 20 (ws := [⟨lg, 0, [n1 0, n1 1], false⟩, ⟨p3, 0, [.lit (.flt .f32 (some 0)), .lit (.flt .f32 (some 0)), .lit (.flt .f32 (some 0))], false⟩, ⟨p19, 0, [nF 3, nF 4, nF 5], false⟩, ⟨p23, 0, [nF 9, nF 10, nF 11], false⟩, ⟨lS65, (i45 * 6), [nI 13, nI 14, nF 15, nF 16, nF 17, nF 18], false⟩, ⟨lS239, (v65_1 * 3), [nF 19, nF 20, nF 21], false⟩, ⟨p212, 0, [.lit (.flt .f32 (some 0)), .lit (.flt .f32 (some 0)), .lit (.flt .f32 (some 0))], true⟩]) (env := [(71, n1 0), (75, nI 14), (11, .ptr 4 0), (12, .ptr 6 0), (6, .ptr 2 0), (9, nB 8), (7, .ptr 3 0), (8, nF 7), (10, nI 6), (0, .ptr 0 0), (1, nI 2), (4, .ptr 1 0)]) q246 (.cons (wR r234 q246) (.cons (wR r235 q246) (.cons (wR r236 q246) (.cons (wR r237 q246) (.cons (win_elem hrk r238 hlt65 rfl (by rw [hm65]; exact (dL q246))) (.cons (win_elem hr gS239 hlt239 rfl (by rw [hm239]; exact (dL q246))) (.cons (wO r214 q246) .nil))))))) (sepD (by repeat (first | exact .nil | refine .cons (by first | assumption | exact Apart.symm (by assumption)) ?_))) .nil (eC q246 (.cons b221 (.cons b222 (.cons b223 (.cons e213 (.cons b224 (.cons b225 (.cons b226 (.cons b227 (.cons b228 (.cons b229 (.cons b230 (.cons b231 .nil))))))))))))) tb_ok apP_ok ?_
   refine all1 (by kernel_rfl) ?_
   intro vs ls H247 E247 st hE
   have b248 := eo st hE 71 S
   have b249 := eo st hE 75 (.int .i64 (v65_1 : Int))
   have b250 := eo st hE 11 (.ptr lS65 ((i45 * 6) + 0))
   have b251 := eo st hE 12 (.ptr p212 0)
   have b252 := eo st hE 6 (.ptr p19 0)
   have b253 := eo st hE 9 (.bool (!(toldT ms ks (j : Int) v15_2 i45).f))
   have b254 := eo st hE 7 (.ptr p23 0)
   have b255 := eo st hE 8 (.flt .f32 (toldT ms ks (j : Int) v15_2 i45).w)
   have b256 := eo st hE 10 (.int .i64 (i45 : Int))
   have b257 := eo st hE 0 (.ptr lg 0)
   have b258 := eo st hE 1 (.int .i64 (j : Int))
   have b259 := eo st hE 4 (.ptr p3 0)
   have g260 : Grew H209 H247 := (gk st)
   have g261 : Grew H H247 := Grew.trans g233 g260
   have r262 := g260.at r234
   have r263 := g260.at r235
   have r264 := g260.at r236
   have r265 := g260.at r237
   have r266 := g260.at r238
   have r268 := g260.at r214
   clear st hE vs ls
   have hlt269 : v65_1 < ms.length := by omega
   obtain ⟨lS269, cap269, rest269, wr269, eS269, gB269⟩ := hS.isSl hlt269
   have gS269 := g261.at gB269
   have ne270 := apn gB269 op3
   have ne271 := apn gB269 op19
   have ne272 := apn gB269 op23
   have ne273 := apn gB269 op212
   obtain ⟨v269_0, v269_1, v269_2, hm269, ho269_0, ho269_1, ho269_2⟩ := partsPose (hr.get hlt269)
   have he269 : ms.getD v65_1 [] = [.flt .f32 v269_0, .flt .f32 v269_1, .flt .f32 v269_2] := by rw [← hm269, List.getD_eq_getElem?_getD, List.getElem?_eq_getElem hlt269]; rfl
   have hq269 := he239.symm.trans he269
   simp only [List.cons.injEq, AV.flt.injEq, AV.int.injEq, Int.natCast_inj, true_and, and_true] at hq269
   obtain ⟨rfl, rfl, rfl⟩ := hq269
   have q274 := q246.app (.cons ⟨_, rfl, ho269_0⟩ (.cons ⟨_, rfl, ho269_1⟩ (.cons ⟨_, rfl, ho269_2⟩ .nil)) : KdsL [KF, KF, KF] [.flt .f32 v239_0, .flt .f32 v239_1, .flt .f32 v239_2])
   refine run_mc (φ := φP) (pm := pmPR 5 [] 10) 20 (ws := [⟨lg, 0, [n1 0, n1 1], false⟩, ⟨p3, 0, [.lit (.flt .f32 (some 0)), .lit (.flt .f32 (some 0)), .lit (.flt .f32 (some 0))], false⟩, ⟨p19, 0, [nF 3, nF 4, nF 5], false⟩, ⟨lS65, (i45 * 6), [nI 13, nI 14, nF 15, nF 16, nF 17, nF 18], false⟩, ⟨lS269, (v65_1 * 3), [nF 28, nF 29, nF 30], false⟩, ⟨p212, 0, [.lit (.flt .f32 (some 0)), .lit (.flt .f32 (some 0)), .lit (.flt .f32 (some 0))], true⟩, ⟨p23, 0, [nF 9, nF 10, nF 11], true⟩]) (env := [(71, n1 0), (75, nI 14), (11, .ptr 3 0), (12, .ptr 5 0), (6, .ptr 2 0), (9, nB 8), (7, .ptr 6 0), (8, nF 7), (10, nI 6), (0, .ptr 0 0), (1, nI 2), (4, .ptr 1 0)]) q274 (.cons (wR r262 q274) (.cons (wR r263 q274) (.cons (wR r264 q274) (.cons (win_elem hrk r266 hlt65 rfl (by rw [hm65]; exact (dL q274))) (.cons (win_elem hr gS269 hlt269 rfl (by rw [hm269]; exact (dL q274))) (.cons (wO r268 q274) (.cons (wO r265 q274) .nil))))))) (sepD (by repeat (first | exact .nil | refine .cons (by first | assumption | exact Apart.symm (by assumption)) ?_))) .nil (eC q274 (.cons b248 (.cons b249 (.cons b250 (.cons b251 (.cons b252 (.cons b253 (.cons b254 (.cons b255 (.cons b256 (.cons b257 (.cons b258 (.cons b259 .nil))))))))))))) tb_ok apP_ok ?_
   refine all1 (by kernel_rfl) ?_
   intro vs ls H275 E275 st hE
   have b276 := eo st hE 71 S
   have b277 := eo st hE 75 (.int .i64 (v65_1 : Int))
   have b278 := eo st hE 11 (.ptr lS65 ((i45 * 6) + 0))
   have b279 := eo st hE 12 (.ptr p212 0)
   have b280 := eo st hE 6 (.ptr p19 0)
   have b281 := eo st hE 9 (.bool (!(toldT ms ks (j : Int) v15_2 i45).f))
   have b282 := eo st hE 7 (.ptr p23 0)
   have b283 := eo st hE 8 (.flt .f32 (toldT ms ks (j : Int) v15_2 i45).w)
   have b284 := eo st hE 10 (.int .i64 (i45 : Int))
   have b285 := eo st hE 0 (.ptr lg 0)
   have b286 := eo st hE 1 (.int .i64 (j : Int))
   have b287 := eo st hE 4 (.ptr p3 0)
   have g288 : Grew H247 H275 := (gk st)
   have g289 : Grew H H275 := Grew.trans g261 g288
   have r290 := g288.at r262
   have r291 := g288.at r263
   have r292 := g288.at r264
   have r293 := g288.at r266
   have r295 := g288.at r268
   have r296 := g288.at r265
   clear st hE vs ls
   have hlt297 : v65_1 < ms.length := by omega
   obtain ⟨lS297, cap297, rest297, wr297, eS297, gB297⟩ := hS.isSl hlt297
   have gS297 := g289.at gB297
   have ne298 := apn gB297 op3
   have ne299 := apn gB297 op19
   have ne300 := apn gB297 op212
   have ne301 := apn gB297 op23
   obtain ⟨v297_0, v297_1, v297_2, hm297, ho297_0, ho297_1, ho297_2⟩ := partsPose (hr.get hlt297)
   have he297 : ms.getD v65_1 [] = [.flt .f32 v297_0, .flt .f32 v297_1, .flt .f32 v297_2] := by rw [← hm297, List.getD_eq_getElem?_getD, List.getElem?_eq_getElem hlt297]; rfl
   have hq297 := he269.symm.trans he297
   simp only [List.cons.injEq, AV.flt.injEq, AV.int.injEq, Int.natCast_inj, true_and, and_true] at hq297
   obtain ⟨rfl, rfl, rfl⟩ := hq297
   have q302 := q274.app (.cons ⟨_, rfl, ho297_0⟩ (.cons ⟨_, rfl, ho297_1⟩ (.cons ⟨_, rfl, ho297_2⟩ .nil)) : KdsL [KF, KF, KF] [.flt .f32 v239_0, .flt .f32 v239_1, .flt .f32 v239_2])
   refine run_mc (φ := φP) (pm := pmPR 5 [(.ia 3 (n1 0) (nI 14), .ptr 4 0), (.call 119 [.agg [nF 15, nF 16, nF 17]], .agg [nF 22, nF 23, nF 24]), (.call 88 [.agg [nF 31, nF 32, nF 33], .agg [nF 22, nF 23, nF 24]], .agg [nF 25, nF 26, nF 27])] 10) 20 (ws := [⟨lg, 0, [n1 0, n1 1], false⟩, ⟨p3, 0, [.lit (.flt .f32 (some 0)), .lit (.flt .f32 (some 0)), .lit (.flt .f32 (some 0))], false⟩, ⟨p19, 0, [nF 3, nF 4, nF 5], false⟩, ⟨lS65, (i45 * 6), [nI 13, nI 14, nF 15, nF 16, nF 17, nF 18], false⟩, ⟨lS297, (v65_1 * 3), [nF 31, nF 32, nF 33], false⟩, ⟨p212, 0, [.lit (.flt .f32 (some 0)), .lit (.flt .f32 (some 0)), .lit (.flt .f32 (some 0))], true⟩, ⟨p23, 0, [nF 9, nF 10, nF 11], true⟩]) (env := [(71, n1 0), (75, nI 14), (11, .ptr 3 0), (12, .ptr 5 0), (6, .ptr 2 0), (9, nB 8), (7, .ptr 6 0), (8, nF 7), (10, nI 6), (0, .ptr 0 0), (1, nI 2), (4, .ptr 1 0)]) q302 (.cons (wR r290 q302) (.cons (wR r291 q302) (.cons (wR r292 q302) (.cons (win_elem hrk r293 hlt65 rfl (by rw [hm65]; exact (dL q302))) (.cons (win_elem hr gS297 hlt297 rfl (by rw [hm297]; exact (dL q302))) (.cons (wO r295 q302) (.cons (wO r296 q302) .nil))))))) (sepD (by repeat (first | exact .nil | refine .cons (by first | assumption | exact Apart.symm (by assumption)) ?_))) (.cons (rule_iaS (k := v65_1) (dE q302) eS297 (dE q302) hlt297 rfl) (.cons (rule_call (args := [.agg [.flt .f32 v65_2, .flt .f32 v65_3, .flt .f32 v65_4]]) (r := .agg [.flt .f32 r244_0, .flt .f32 r244_1, .flt .f32 r244_2]) (dL q302) (dE q302) (fun H9 hk => (by rw [← hmr244]; exact k_l06Back [.flt .f32 v65_2, .flt .f32 v65_3, .flt .f32 v65_4] (.cons ⟨_, rfl, ho65_2⟩ (.cons ⟨_, rfl, ho65_3⟩ (.cons ⟨_, rfl, ho65_4⟩ .nil))) H9))) (.cons (rule_call (args := [.agg [.flt .f32 v239_0, .flt .f32 v239_1, .flt .f32 v239_2], .agg [.flt .f32 r244_0, .flt .f32 r244_1, .flt .f32 r244_2]]) (r := .agg [.flt .f32 r245_0, .flt .f32 r245_1, .flt .f32 r245_2]) (dL q302) (dE q302) (fun H9 hk => (by rw [← hmr245]; exact k_l06Compose [.flt .f32 v239_0, .flt .f32 v239_1, .flt .f32 v239_2] [.flt .f32 r244_0, .flt .f32 r244_1, .flt .f32 r244_2] (.cons ⟨_, rfl, ho297_0⟩ (.cons ⟨_, rfl, ho297_1⟩ (.cons ⟨_, rfl, ho297_2⟩ .nil))) (.cons ⟨_, rfl, or244_0⟩ (.cons ⟨_, rfl, or244_1⟩ (.cons ⟨_, rfl, or244_2⟩ .nil))) H9))) .nil))) (eC q302 (.cons b276 (.cons b277 (.cons b278 (.cons b279 (.cons b280 (.cons b281 (.cons b282 (.cons b283 (.cons b284 (.cons b285 (.cons b286 (.cons b287 .nil))))))))))))) tb_ok apP_ok ?_
   refine all2 (by kernel_rfl) ?_ ?_
   ·
    intro vs ls H303 E303 st hE
    have f304 : (!(toldT ms ks (j : Int) v15_2 i45).f) = true := bf st 0
    obtain ⟨w306, hw306⟩ : ∃ z, z = (fop .mul .f32 v65_5 r245_0) := ⟨_, rfl⟩
    obtain ⟨w307, hw307⟩ : ∃ z, z = (fop .mul .f32 v65_5 r245_1) := ⟨_, rfl⟩
    obtain ⟨w308, hw308⟩ : ∃ z, z = (fop .mul .f32 v65_5 (wrapF (fop .sub .f32 r245_2 v15_2))) := ⟨_, rfl⟩
    have r309 : H303.get p23 = some (.row [.flt .f32 (fop .mul .f32 v65_5 r245_0), .flt .f32 (fop .mul .f32 v65_5 r245_1), .flt .f32 (fop .mul .f32 v65_5 (wrapF (fop .sub .f32 r245_2 v15_2)))] true) := row_whole st.inn 6 (l := p23) (b := 0) rfl (by kernel_rfl)
    obtain ⟨w310, hw310⟩ : ∃ z, z = (IntKind.wrap .i64 ((i45 : Int) + 1)) := ⟨_, rfl⟩
    have b311 : E303 10 = .int .i64 w310 := by rw [hw310]; exact eo st hE 10 _
    have b312 := eo st hE 0 (.ptr lg 0)
    have b313 := eo st hE 1 (.int .i64 (j : Int))
    have b314 := eo st hE 6 (.ptr p19 0)
    have b315 := eo st hE 7 (.ptr p23 0)
    have b316 := eo st hE 4 (.ptr p3 0)
    have b317 := eo st hE 8 (.flt .f32 v65_5)
    have b318 := eo st hE 9 (.bool false)
    have g320 : Grew H H303 := grew_own g289 st.inn.kept ⟨op212, ⟨op23, trivial⟩⟩
    have r321 := kept_at st.inn.kept r290 ⟨by first | assumption | exact Apart.symm (by assumption), ⟨by first | assumption | exact Apart.symm (by assumption), trivial⟩⟩
    have r322 := kept_at st.inn.kept r291 ⟨by first | assumption | exact Apart.symm (by assumption), ⟨by first | assumption | exact Apart.symm (by assumption), trivial⟩⟩
    have r323 := kept_at st.inn.kept r292 ⟨by first | assumption | exact Apart.symm (by assumption), ⟨by first | assumption | exact Apart.symm (by assumption), trivial⟩⟩
    clear st hE vs ls
    have hz9 : z45 - 1 < z45 := by omega
    have hy9 : z45 - 1 + (i45 + 1) = ks.length := by omega
    have hi9 : E303 10 = .int .i64 ((i45 + 1 : Nat) : Int) := by rw [b311, hw310, wrap64 (by omega)]
    have hn9 : (toldT ms ks (j : Int) v15_2 (i45 + 1)) = ⟨w306, w307, w308, v65_5, true⟩ := by
     show toldS _ _ _ _ _ = _; unfold toldS; rw [he65]; rw [toldP_link, if_neg (by omega), if_pos (by omega)]
     rw [show ∀ a : Nat, (a : Int).toNat = a from fun _ => rfl, he297, hmr244, hmr245]
     show tellW _ _ _ _ = _; unfold tellW; rw [show (toldT ms ks (j : Int) v15_2 i45).f = false from by simpa using f304]
     simp only [hw306, hw307, hw308, hw310, linkW, if_true, Bool.false_eq_true, if_false]
    exact res_norm (by kernel_rfl) ⟨z45 - 1, hz9, i45 + 1, hy9, b312, b313, b314, b315, b316, hi9, (by rw [hn9]; exact b317), (by rw [hn9]; exact b318), g320, r321, r322, r323, (by rw [hn9, hw306, hw307, hw308]; exact r309)⟩
   ·
    intro vs ls H326 E326 st hE
    have f327 : (!(toldT ms ks (j : Int) v15_2 i45).f) = false := bf st 0
    obtain ⟨w329, hw329⟩ : ∃ z, z = (fop .add .f32 (toldT ms ks (j : Int) v15_2 i45).a (fop .mul .f32 v65_5 r245_0)) := ⟨_, rfl⟩
    obtain ⟨w330, hw330⟩ : ∃ z, z = (fop .add .f32 (toldT ms ks (j : Int) v15_2 i45).b (fop .mul .f32 v65_5 r245_1)) := ⟨_, rfl⟩
    obtain ⟨w331, hw331⟩ : ∃ z, z = (fop .add .f32 (toldT ms ks (j : Int) v15_2 i45).c (fop .mul .f32 v65_5 (wrapF (fop .sub .f32 r245_2 v15_2)))) := ⟨_, rfl⟩
    have r332 : H326.get p23 = some (.row [.flt .f32 (fop .add .f32 (toldT ms ks (j : Int) v15_2 i45).a (fop .mul .f32 v65_5 r245_0)), .flt .f32 (fop .add .f32 (toldT ms ks (j : Int) v15_2 i45).b (fop .mul .f32 v65_5 r245_1)), .flt .f32 (fop .add .f32 (toldT ms ks (j : Int) v15_2 i45).c (fop .mul .f32 v65_5 (wrapF (fop .sub .f32 r245_2 v15_2))))] true) := row_whole st.inn 6 (l := p23) (b := 0) rfl (by kernel_rfl)
    obtain ⟨w333, hw333⟩ : ∃ z, z = (IntKind.wrap .i64 ((i45 : Int) + 1)) := ⟨_, rfl⟩
    have b334 : E326 10 = .int .i64 w333 := by rw [hw333]; exact eo st hE 10 _
    have b335 := eo st hE 0 (.ptr lg 0)
    have b336 := eo st hE 1 (.int .i64 (j : Int))
    have b337 := eo st hE 6 (.ptr p19 0)
    have b338 := eo st hE 7 (.ptr p23 0)
    have b339 := eo st hE 4 (.ptr p3 0)
    obtain ⟨w340, hw340⟩ : ∃ z, z = (fop .add .f32 (toldT ms ks (j : Int) v15_2 i45).w v65_5) := ⟨_, rfl⟩
    have b341 : E326 8 = .flt .f32 w340 := by rw [hw340]; exact eo st hE 8 _
    have b342 := eo st hE 9 (.bool false)
    have g344 : Grew H H326 := grew_own g289 st.inn.kept ⟨op212, ⟨op23, trivial⟩⟩
    have r345 := kept_at st.inn.kept r290 ⟨by first | assumption | exact Apart.symm (by assumption), ⟨by first | assumption | exact Apart.symm (by assumption), trivial⟩⟩
    have r346 := kept_at st.inn.kept r291 ⟨by first | assumption | exact Apart.symm (by assumption), ⟨by first | assumption | exact Apart.symm (by assumption), trivial⟩⟩
    have r347 := kept_at st.inn.kept r292 ⟨by first | assumption | exact Apart.symm (by assumption), ⟨by first | assumption | exact Apart.symm (by assumption), trivial⟩⟩
    clear st hE vs ls
    have hz9 : z45 - 1 < z45 := by omega
    have hy9 : z45 - 1 + (i45 + 1) = ks.length := by omega
    have hi9 : E326 10 = .int .i64 ((i45 + 1 : Nat) : Int) := by rw [b334, hw333, wrap64 (by omega)]
    have hn9 : (toldT ms ks (j : Int) v15_2 (i45 + 1)) = ⟨w329, w330, w331, w340, true⟩ := by
     show toldS _ _ _ _ _ = _; unfold toldS; rw [he65]; rw [toldP_link, if_neg (by omega), if_pos (by omega)]
     rw [show ∀ a : Nat, (a : Int).toNat = a from fun _ => rfl, he297, hmr244, hmr245]
     show tellW _ _ _ _ = _; unfold tellW; rw [show (toldT ms ks (j : Int) v15_2 i45).f = true from by simpa using f327]
     simp only [hw329, hw330, hw331, hw333, hw340, linkW, if_true, Bool.false_eq_true, if_false]
    exact res_norm (by kernel_rfl) ⟨z45 - 1, hz9, i45 + 1, hy9, b335, b336, b337, b338, b339, hi9, (by rw [hn9]; exact b341), (by rw [hn9]; exact b342), g344, r345, r346, r347, (by rw [hn9, hw329, hw330, hw331]; exact r332)⟩
  ·
   intro vs ls H350 E350 st hE
   have f351 : ¬ ((j : Int) = (v65_0 : Int)) := df st 0
   have f352 : ¬ ((j : Int) = (v65_1 : Int)) := df st 1
   obtain ⟨w353, hw353⟩ : ∃ z, z = (IntKind.wrap .i64 ((i45 : Int) + 1)) := ⟨_, rfl⟩
   have b354 : E350 10 = .int .i64 w353 := by rw [hw353]; exact eo st hE 10 _
   have b355 := eo st hE 0 (.ptr lg 0)
   have b356 := eo st hE 1 (.int .i64 (j : Int))
   have b357 := eo st hE 6 (.ptr p19 0)
   have b358 := eo st hE 7 (.ptr p23 0)
   have b359 := eo st hE 4 (.ptr p3 0)
   have b360 := eo st hE 8 (.flt .f32 (toldT ms ks (j : Int) v15_2 i45).w)
   have b361 := eo st hE 9 (.bool (!(toldT ms ks (j : Int) v15_2 i45).f))
   have g362 : Grew H47 H350 := (gk st)
   have g363 : Grew H H350 := Grew.trans g60 g362
   have r364 := g362.at r61
   have r365 := g362.at r62
   have r366 := g362.at r63
   have r367 := g362.at r64
   clear st hE vs ls
   have hz9 : z45 - 1 < z45 := by omega
   have hy9 : z45 - 1 + (i45 + 1) = ks.length := by omega
   have hi9 : E350 10 = .int .i64 ((i45 + 1 : Nat) : Int) := by rw [b354, hw353, wrap64 (by omega)]
   have hn9 : (toldT ms ks (j : Int) v15_2 (i45 + 1)) = (toldT ms ks (j : Int) v15_2 i45) := by
    show toldS _ _ _ _ _ = _; unfold toldS; rw [he65]; rw [toldP_link, if_neg (by omega), if_neg (by omega)]
   exact res_norm (by kernel_rfl) ⟨z45 - 1, hz9, i45 + 1, hy9, b355, b356, b357, b358, b359, hi9, (by rw [hn9]; exact b360), (by rw [hn9]; exact b361), g363, r364, r365, r366, (by rw [hn9]; exact r367)⟩
 ·
  intro vs ls H369 E369 st hE
  have f370 : ¬ ((i45 : Int) < (ks.length : Int)) := df st 0
  have b371 := eo st hE 10 (.int .i64 (i45 : Int))
  have b372 := eo st hE 0 (.ptr lg 0)
  have b373 := eo st hE 25 (.ptr lg 0)
  have b374 := eo st hE 26 (.ptr lg 0)
  have b375 := eo st hE 27 (.ptr lg 1)
  have b376 := eo st hE 28 Sk
  have b377 := eo st hE 24 (.int .i64 (i45 : Int))
  have b378 := eo st hE 29 (.int .i64 (ks.length : Int))
  obtain ⟨w379, hw379⟩ : ∃ z, z = (decide ((i45 : Int) < (ks.length : Int))) := ⟨_, rfl⟩
  have b380 : E369 30 = .bool w379 := by rw [hw379]; exact eo st hE 30 _
  have b381 := eo st hE 1 (.int .i64 (j : Int))
  have b382 := eo st hE 6 (.ptr p19 0)
  have b383 := eo st hE 9 (.bool (!(toldT ms ks (j : Int) v15_2 i45).f))
  have b384 := eo st hE 7 (.ptr p23 0)
  have b385 := eo st hE 8 (.flt .f32 (toldT ms ks (j : Int) v15_2 i45).w)
  have b386 := eo st hE 4 (.ptr p3 0)
  have g387 : Grew Hi45 H369 := (gk st)
  have g388 : Grew H H369 := Grew.trans gt45 g387
  have r389 := g387.at r45_0
  have r390 := g387.at r45_1
  have r391 := g387.at r45_2
  have r392 := g387.at r45_3
  clear st hE vs ls
  refine res_exit (id := 0) (by kernel_rfl) ?_
  have q393 := q46.app (.cons ⟨_, rfl⟩ .nil : KdsL [.bool] [.bool w379])
  refine run_mc (φ := φP) (pm := pmPR 3 [] 10) 20 (ws := [⟨lg, 0, [n1 0, n1 1], false⟩, ⟨p19, 0, [nF 3, nF 4, nF 5], false⟩, ⟨p23, 0, [nF 9, nF 10, nF 11], false⟩, ⟨p3, 0, [.lit (.flt .f32 (some 0)), .lit (.flt .f32 (some 0)), .lit (.flt .f32 (some 0))], true⟩]) (env := [(10, nI 6), (0, .ptr 0 0), (25, .ptr 0 0), (26, .ptr 0 0), (27, .ptr 0 1), (28, n1 1), (24, nI 6), (29, nI 12), (30, nB 13), (1, nI 2), (6, .ptr 1 0), (9, nB 8), (7, .ptr 2 0), (8, nF 7), (4, .ptr 3 0)]) q393 (.cons (wR r389 q393) (.cons (wR r391 q393) (.cons (wR r392 q393) (.cons (wO r390 q393) .nil)))) (sepD (by repeat (first | exact .nil | refine .cons (by first | assumption | exact Apart.symm (by assumption)) ?_))) .nil (eC q393 (.cons b371 (.cons b372 (.cons b373 (.cons b374 (.cons b375 (.cons b376 (.cons b377 (.cons b378 (.cons b380 (.cons b381 (.cons b382 (.cons b383 (.cons b384 (.cons b385 (.cons b386 .nil)))))))))))))))) tb_ok apP_ok ?_
  refine all1 (by kernel_rfl) ?_
  intro vs ls H394 E394 st hE
  refine res_ex (by kernel_rfl) (end_flat st.inn hE (.inr rfl) (a := .tuple [.agg [.flt .f32 (fop .quo .f32 (toldT ms ks (j : Int) v15_2 i45).a (toldT ms ks (j : Int) v15_2 i45).w), .flt .f32 (fop .quo .f32 (toldT ms ks (j : Int) v15_2 i45).b (toldT ms ks (j : Int) v15_2 i45).w), .flt .f32 (wrapF (fop .add .f32 v15_2 (fop .quo .f32 (toldT ms ks (j : Int) v15_2 i45).c (toldT ms ks (j : Int) v15_2 i45).w)))], .bool (!(!(toldT ms ks (j : Int) v15_2 i45).f))]) (by kernel_rfl) (grew_own g388 (st.inn.kept) ⟨op3, trivial⟩) rfl ⟨?_, rfl⟩)
  unfold toldF; rw [show ((j : Nat) : Int).toNat = j from rfl, he15, show headA [.flt .f32 v15_0, .flt .f32 v15_1, .flt .f32 v15_2] = v15_2 from rfl, show ks.length = i45 by omega]; simp
end Go.Proofs.Ytcmoeocemmeofaa
