/- Contracts: the nearest mark, by both. -/
import Derived.Test.YtgjhjemmddojfaaTWithinB
import Derived.Test.YtgjhjemmddojfaaTLawCell
import Derived.Test.YtgjhjemmddojfaaTLawValidMap
set_option linter.unusedVariables false
set_option linter.unusedSimpArgs false
namespace Go.Proofs.Ytgjhjemmddojfaa
open Go.Ab
set_option maxRecDepth 100000
set_option maxHeartbeats 1000000
attribute [local irreducible] Res
theorem e_bes (m m' : List AV) (h : KdsL K3 m ∧ KdsL K3 m') : ∃ b : Bool, ∀ H, APure Try.prog 112 [.agg m, .agg m'] H (.bool b) ∧ APure Try.prog 111 [.agg m, .agg m'] H (.bool b) := by
 obtain ⟨b, h2⟩ := pair_flatB (φ := φ0) (pm := pm) 20 (f := 111) (g := 112) rfl rfl tb_ok ap_ok (gk := [(true, K3), (true, K3)]) (gv := [(true, m), (true, m')]) (.cons h.1 (.cons h.2 .nil)) (by decide) (by kernel_rfl)
 exact ⟨b, fun H => ⟨(h2 H).2, (h2 H).1⟩⟩
open Classical in
noncomputable def besB (m m' : List AV) : Bool := if h : KdsL K3 m ∧ KdsL K3 m' then Classical.choose (e_bes m m' h) else false
theorem k_besides (m m' : List AV) (h : KdsL K3 m) (h' : KdsL K3 m') (H : AHeap) : APure Try.prog 112 [.agg m, .agg m'] H (.bool (besB m m')) := by
 unfold besB; rw [dif_pos ⟨h, h'⟩]; exact (Classical.choose_spec (e_bes m m' ⟨h, h'⟩) H).1
theorem k_l05Beside (m m' : List AV) (h : KdsL K3 m) (h' : KdsL K3 m') (H : AHeap) : APure Try.prog 111 [.agg m, .agg m'] H (.bool (besB m m')) := by
 unfold besB; rw [dif_pos ⟨h, h'⟩]; exact (Classical.choose_spec (e_bes m m' ⟨h, h'⟩) H).2
def leq32 (a b : Option Nat) : Bool := ford .f32 a b == some .lt || ford .f32 a b == some .eq
noncomputable def nearS (v : List AV) (g : Option Nat) (c : List AV) (s : Int × Option Nat) (i : Nat) (L : List AV) : Int × Option Nat :=
 if besB (L.take 3) c = true then (if leq32 (awayF v L) g = true then (if s.1 < 0 then ((i : Int), awayF v L) else if (ford .f32 (awayF v L) s.2 == some .lt) = true then ((i : Int), awayF v L) else s) else s) else s
noncomputable def nearT (v : List AV) (g : Option Nat) (c : List AV) (ms : List (List AV)) : Nat → Int × Option Nat
 | 0 => (-1, some 0)
 | k + 1 => nearS v g c (nearT v g c ms k) k (ms.getD k [])
theorem nearT_inv (v : List AV) (g : Option Nat) (c : List AV) (ms : List (List AV)) : ∀ k, fOk .f32 (nearT v g c ms k).2 ∧ -1 ≤ (nearT v g c ms k).1 ∧ (nearT v g c ms k).1 < k
 | 0 => ⟨fun b e => by cases e; exact ⟨by decide +kernel, by decide +kernel⟩, Int.le_refl _, by show (-1 : Int) < _; omega⟩
 | k + 1 => by
  obtain ⟨h1, h2, h3⟩ := nearT_inv v g c ms k
  have hs : fOk .f32 (nearT v g c ms k).2 ∧ -1 ≤ (nearT v g c ms k).1 ∧ (nearT v g c ms k).1 < ((k + 1 : Nat) : Int) := ⟨h1, h2, by omega⟩
  have hn : fOk .f32 ((k : Int), awayF v (ms.getD k [])).2 ∧ -1 ≤ ((k : Int), awayF v (ms.getD k [])).1 ∧ ((k : Int), awayF v (ms.getD k [])).1 < ((k + 1 : Nat) : Int) := ⟨awayF_ok _ _, by show (-1 : Int) ≤ k; omega, by show (k : Int) < _; omega⟩
  unfold nearT nearS
  split
  ·
   split
   ·
    split
    ·
     exact hn
    ·
     split
     ·
      exact hn
     ·
      exact hs
   ·
    exact hs
  ·
   exact hs
noncomputable def nearI (x : Option Nat) (ms : List (List AV)) (a b c g : Option Nat) : Int × Int :=
 if leq32 (some 0) g = true then (if (cellX x a b c).2 = 0 then ((nearT [.flt .f32 a, .flt .f32 b, .flt .f32 c] g (cellX x a b c).1 ms ms.length).1, 0) else (-1, (cellX x a b c).2)) else (-1, 2)
noncomputable def nearM (x : Option Nat) (ms : List (List AV)) (a b c g : Option Nat) : Int × Int :=
 if (nearI x ms a b c g).2 = 0 then (if (nearI x ms a b c g).1 < 0 then (0, 6) else ((nearI x ms a b c g).1, 0)) else (0, (nearI x ms a b c g).2)
theorem nearI_rng (x : Option Nat) (ms : List (List AV)) (a b c g : Option Nat) : -1 ≤ (nearI x ms a b c g).1 ∧ (nearI x ms a b c g).1 < ms.length := by
 unfold nearI
 split
 ·
  split
  ·
   have := nearT_inv [.flt .f32 a, .flt .f32 b, .flt .f32 c] g (cellX x a b c).1 ms ms.length
   exact this.2
  ·
   exact ⟨Int.le_refl _, by show (-1 : Int) < _; omega⟩
 ·
  exact ⟨Int.le_refl _, by show (-1 : Int) < _; omega⟩
def zeroM : List AV := [.int .i32 0, .int .i32 0, .int .i32 0, .flt .f32 (some 0), .flt .f32 (some 0), .flt .f32 (some 0), .flt .f32 (some 0), .int .i64 0, .int .i64 0]
noncomputable def nearestF (x : Option Nat) (ms : List (List AV)) (a b c g : Option Nat) : List AV × Int :=
 if okMap x ms = true then (if (nearI x ms a b c g).2 = 0 then (if (nearI x ms a b c g).1 < 0 then (zeroM, 6) else (ms.getD (nearI x ms a b c g).1.toNat [], 0)) else (zeroM, (nearI x ms a b c g).2)) else (zeroM, 1)
theorem nearestF_ok (x : Option Nat) {ms : List (List AV)} (hr : Recs KM ms) (a b c g : Option Nat) : KdsL KM (nearestF x ms a b c g).1 := by
 have f0 : fOk .f32 (some 0) := fun b e => by cases e; exact ⟨by decide +kernel, by decide +kernel⟩
 have hz : KdsL KM zeroM := .cons ⟨_, rfl⟩ (.cons ⟨_, rfl⟩ (.cons ⟨_, rfl⟩ (.cons ⟨_, rfl, f0⟩ (.cons ⟨_, rfl, f0⟩ (.cons ⟨_, rfl, f0⟩ (.cons ⟨_, rfl, f0⟩ (.cons ⟨_, rfl⟩ (.cons ⟨_, rfl⟩ .nil))))))))
 unfold nearestF
 split
 ·
  split
  ·
   split
   ·
    exact hz
   ·
    have h := nearI_rng x ms a b c g
    have hl : (nearI x ms a b c g).1.toNat < ms.length := by omega
    show KdsL KM (ms.getD _ [])
    rw [show ms.getD (nearI x ms a b c g).1.toNat [] = ms[(nearI x ms a b c g).1.toNat] by simp [List.getD_eq_getElem?_getD, hl]]
    exact hr.get hl
  ·
   exact hz
 ·
  exact hz
theorem k_nearestMark (H : AHeap) (x : Option Nat) (hx : fOk .f32 x) (ms : List (List AV)) (hr : Recs KM ms) (S : AV) (hS : SlL H 9 ms S) (mxms : ms.length ≤ 1048576) (a b c : Option Nat) (ha : fOk .f32 a) (hb : fOk .f32 b) (hc : fOk .f32 c) (g : Option Nat) (hg : fOk .f32 g) : APure Try.prog 90 [.agg [.flt .f32 x, S], .agg [.flt .f32 a, .flt .f32 b, .flt .f32 c], .flt .f32 g] H (.tuple [.int .i64 (nearM x ms a b c g).1, .int .i64 (nearM x ms a b c g).2]) := by
 obtain ⟨c0, c1, c2, d, hce⟩ := cellX_form x a b c
 have kc1 := fun H => k_CellOf x a b c hx ha hb hc H
 have kc2 := fun H => k_l05Cell x a b c hx ha hb hc H
 rw [hce] at kc1 kc2
 refine res_start h_impl_nearestMark (by simp) ?_
 have q1 : KdsL [KF, .one, KF, KF, KF, KF, K2, K2, K2, KI, KI] [.flt .f32 x, S, .flt .f32 a, .flt .f32 b, .flt .f32 c, .flt .f32 g, .int .i32 c0, .int .i32 c1, .int .i32 c2, .int .i64 d, .int .i64 (ms.length : Int)] := .cons ⟨_, rfl, hx⟩ (.cons (slOne hS) (.cons ⟨_, rfl, ha⟩ (.cons ⟨_, rfl, hb⟩ (.cons ⟨_, rfl, hc⟩ (.cons ⟨_, rfl, hg⟩ (.cons ⟨_, rfl⟩ (.cons ⟨_, rfl⟩ (.cons ⟨_, rfl⟩ (.cons ⟨_, rfl⟩ (.cons ⟨_, rfl⟩ .nil))))))))))
 refine run_mc (φ := φ0) (pm := pmR 0 [(.call 23 [nF 0, .agg [nF 2, nF 3, nF 4]], .tup [.agg [n2 6, n2 7, n2 8], nI 9]), (.len (n1 1), nI 10)] 0) 20 (ws := []) (env := [(0, .agg [nF 0, n1 1]), (1, .agg [nF 2, nF 3, nF 4]), (2, nF 5)]) q1 .nil (sepOk_ro rfl) (.cons (rule_call (args := [.flt .f32 x, .agg [.flt .f32 a, .flt .f32 b, .flt .f32 c]]) (dL q1) (dE q1) (fun H9 hk => kc1 H9)) (.cons (⟨_, _, (dE q1), (dE q1), slLen hS⟩) .nil)) (eC q1 (.cons (t := 0) rfl (.cons (t := 1) rfl (.cons (t := 2) rfl .nil)))) tb_ok ap_ok ?_
 refine all3 (by kernel_rfl) ?_ ?_ ?_
 ·
  intro vs ls H2 E2 st hE
  have f3 : (ford .f32 (some 0) g == some .lt || ford .f32 (some 0) g == some .eq) = false := bf st 0
  refine res_ex (by kernel_rfl) (end_flat st.inn hE (.inr rfl) (a := .tuple [.int .i64 0, .int .i64 2]) (by kernel_rfl) (Grew.trans (Grew.refl _) (gk st)) rfl ⟨?_, rfl⟩)
  have hI : nearI x ms a b c g = ((-1 : Int), (2 : Int)) := by
   unfold nearI; rw [if_neg (by unfold leq32; rw [f3]; decide)]
  unfold nearM; rw [hI]
  rfl
 ·
  intro vs ls H4 E4 st hE
  have f5 : ¬ (d = 0) := df st 0
  have f6 : (ford .f32 (some 0) g == some .lt || ford .f32 (some 0) g == some .eq) = true := bf st 1
  refine res_ex (by kernel_rfl) (end_flat st.inn hE (.inr rfl) (a := .tuple [.int .i64 0, .int .i64 d]) (by kernel_rfl) (Grew.trans (Grew.refl _) (gk st)) rfl ⟨?_, rfl⟩)
  have hI : nearI x ms a b c g = ((-1 : Int), d) := by
   unfold nearI; rw [if_pos (show leq32 (some 0) g = true from f6), hce]; show (if d = 0 then _ else _) = _; rw [if_neg f5]
  unfold nearM; rw [hI]
  show _ = AV.tuple [.int .i64 (if d = 0 then _ else ((0 : Int), d)).1, .int .i64 (if d = 0 then _ else ((0 : Int), d)).2]; rw [if_neg f5]
 ·
  intro vs ls H7 E7 st hE
  have f8 : d = 0 := dt st 0
  have f9 : (ford .f32 (some 0) g == some .lt || ford .f32 (some 0) g == some .eq) = true := bf st 1
  obtain ⟨p10, e11, r12, n13⟩ := ptr_of st.inn hE 4 1 (by kernel_rfl) (ds := [.flt .f32 a, .flt .f32 b, .flt .f32 c]) (by kernel_rfl)
  have op10 : H.next ≤ p10 := Nat.le_trans (Nat.le_refl _) (n13 (Nat.le_of_ble_eq_true rfl))
  obtain ⟨p14, e15, r16, n17⟩ := ptr_of st.inn hE 8 2 (by kernel_rfl) (ds := [.int .i32 c0, .int .i32 c1, .int .i32 c2]) (by kernel_rfl)
  have op14 : H.next ≤ p14 := Nat.le_trans (Nat.le_refl _) (n17 (Nat.le_of_ble_eq_true rfl))
  have ne18 : Apart p10 p14 := ⟨ptr_ne st.inn hE 4 1 8 2 (by kernel_rfl) (by kernel_rfl) (cs := [.nd 2 (.flt .f32), .nd 3 (.flt .f32), .nd 4 (.flt .f32)]) (by kernel_rfl) (by decide) e11 e15⟩
  have b19 := eo st hE 31 (.int .i64 0)
  have b20 := eo st hE 30 (.int .i64 (ms.length : Int))
  have b21 := eo st hE 29 S
  have b22 := eo st hE 2 (.flt .f32 g)
  have b23 := eo st hE 10 (.int .i64 (-1))
  have b24 := eo st hE 11 (.flt .f32 (some 0))
  have g25 : Grew H H7 := (gk st)
  have g26 : Grew H H7 := Grew.trans (Grew.refl _) g25
  clear st hE vs ls
  refine res_loop (by kernel_rfl) (fun z E H' => ∃ (i : Nat), z + i = ms.length ∧ E 30 = .int .i64 (ms.length : Int) ∧ E 29 = S ∧ E 4 = .ptr p10 0 ∧ E 8 = .ptr p14 0 ∧ E 2 = .flt .f32 g ∧ E 31 = .int .i64 (i : Int) ∧ E 10 = .int .i64 (nearT [.flt .f32 a, .flt .f32 b, .flt .f32 c] g [.int .i32 c0, .int .i32 c1, .int .i32 c2] ms i).1 ∧ E 11 = .flt .f32 (nearT [.flt .f32 a, .flt .f32 b, .flt .f32 c] g [.int .i32 c0, .int .i32 c1, .int .i32 c2] ms i).2 ∧ Grew H H' ∧ H'.get p10 = some (.row [.flt .f32 a, .flt .f32 b, .flt .f32 c] true) ∧ H'.get p14 = some (.row [.int .i32 c0, .int .i32 c1, .int .i32 c2] true)) (ms.length) ⟨0, by omega, b20, b21, e11, e15, b22, b19, b23, b24, g26, r12, r16⟩ ?_
  rintro z27 Ei27 Hi27 ⟨i27, hz27, c27_30, c27_29, c27_4, c27_8, c27_2, ci27, cv27_10, cv27_11, gt27, r27_0, r27_1⟩
  have q28 := q1.app (.cons ⟨_, rfl⟩ (.cons ⟨_, rfl⟩ (.cons ⟨_, rfl, (nearT_inv [.flt .f32 a, .flt .f32 b, .flt .f32 c] g [.int .i32 c0, .int .i32 c1, .int .i32 c2] ms i27).1⟩ .nil)) : KdsL [KI, KI, KF] [.int .i64 (i27 : Int), .int .i64 (nearT [.flt .f32 a, .flt .f32 b, .flt .f32 c] g [.int .i32 c0, .int .i32 c1, .int .i32 c2] ms i27).1, .flt .f32 (nearT [.flt .f32 a, .flt .f32 b, .flt .f32 c] g [.int .i32 c0, .int .i32 c1, .int .i32 c2] ms i27).2])
  refine run_mc (φ := φ0) (pm := pmR 2 [] 0) 20 (ws := [⟨p10, 0, [nF 2, nF 3, nF 4], false⟩, ⟨p14, 0, [n2 6, n2 7, n2 8], false⟩]) (env := [(30, nI 10), (29, n1 1), (4, .ptr 0 0), (8, .ptr 1 0), (2, nF 5), (31, nI 11), (10, nI 12), (11, nF 13)]) q28 (.cons (wR r27_0 q28) (.cons (wR r27_1 q28) .nil)) (sepOk_ro rfl) .nil (eC q28 (.cons c27_30 (.cons c27_29 (.cons c27_4 (.cons c27_8 (.cons c27_2 (.cons ci27 (.cons cv27_10 (.cons cv27_11 .nil))))))))) tb_ok ap_ok ?_
  refine all2 (by kernel_rfl) ?_ ?_
  ·
   intro vs ls H29 E29 st hE
   have f30 : (i27 : Int) < (ms.length : Int) := dt st 0
   have b31 := eo st hE 29 S
   have b32 := eo st hE 31 (.int .i64 (i27 : Int))
   have b33 := eo st hE 33 (.int .i64 (i27 : Int))
   have b34 := eo st hE 4 (.ptr p10 0)
   have b35 := eo st hE 8 (.ptr p14 0)
   have b36 := eo st hE 2 (.flt .f32 g)
   have b37 := eo st hE 10 (.int .i64 (nearT [.flt .f32 a, .flt .f32 b, .flt .f32 c] g [.int .i32 c0, .int .i32 c1, .int .i32 c2] ms i27).1)
   have b38 := eo st hE 11 (.flt .f32 (nearT [.flt .f32 a, .flt .f32 b, .flt .f32 c] g [.int .i32 c0, .int .i32 c1, .int .i32 c2] ms i27).2)
   have b39 := eo st hE 30 (.int .i64 (ms.length : Int))
   have g40 : Grew Hi27 H29 := (gk st)
   have g41 : Grew H H29 := Grew.trans gt27 g40
   have r42 := g40.at r27_0
   have r43 := g40.at r27_1
   clear st hE vs ls
   have hlt44 : i27 < ms.length := by omega
   obtain ⟨lS44, cap44, rest44, wr44, eS44, gB44⟩ := hS.isSl hlt44
   have gS44 := g41.at gB44
   have ne45 := apn gB44 op10
   have ne46 := apn gB44 op14
   obtain ⟨v44_0, v44_1, v44_2, v44_3, v44_4, v44_5, v44_6, v44_7, v44_8, hm44, ho44_3, ho44_4, ho44_5, ho44_6⟩ := partsMark (hr.get hlt44)
   have he44 : ms.getD i27 [] = [.int .i32 v44_0, .int .i32 v44_1, .int .i32 v44_2, .flt .f32 v44_3, .flt .f32 v44_4, .flt .f32 v44_5, .flt .f32 v44_6, .int .i64 v44_7, .int .i64 v44_8] := by rw [← hm44, List.getD_eq_getElem?_getD, List.getElem?_eq_getElem hlt44]; rfl
   have q47 := q28.app (.cons ⟨_, rfl⟩ (.cons ⟨_, rfl⟩ (.cons ⟨_, rfl⟩ (.cons ⟨_, rfl, ho44_3⟩ (.cons ⟨_, rfl, ho44_4⟩ (.cons ⟨_, rfl, ho44_5⟩ (.cons ⟨_, rfl, ho44_6⟩ (.cons ⟨_, rfl⟩ (.cons ⟨_, rfl⟩ (.cons ⟨_, rfl, awayF_ok _ _⟩ (.cons ⟨_, rfl⟩ .nil)))))))))) : KdsL [K2, K2, K2, KF, KF, KF, KF, KI, KI, KF, .bool] [.int .i32 v44_0, .int .i32 v44_1, .int .i32 v44_2, .flt .f32 v44_3, .flt .f32 v44_4, .flt .f32 v44_5, .flt .f32 v44_6, .int .i64 v44_7, .int .i64 v44_8, .flt .f32 (awayF [.flt .f32 a, .flt .f32 b, .flt .f32 c] [.int .i32 v44_0, .int .i32 v44_1, .int .i32 v44_2, .flt .f32 v44_3, .flt .f32 v44_4, .flt .f32 v44_5, .flt .f32 v44_6, .int .i64 v44_7, .int .i64 v44_8]), .bool (besB [.int .i32 v44_0, .int .i32 v44_1, .int .i32 v44_2] [.int .i32 c0, .int .i32 c1, .int .i32 c2])])
   refine run_mc (φ := φ0) (pm := pmR 3 [(.ia 9 (n1 1) (nI 11), .ptr 2 0), (.call 88 [.agg [n2 14, n2 15, n2 16, nF 17, nF 18, nF 19, nF 20, nI 21, nI 22], .agg [nF 2, nF 3, nF 4]], nF 23), (.call 112 [.agg [n2 14, n2 15, n2 16], .agg [n2 6, n2 7, n2 8]], nB 24)] 0) 20 (ws := [⟨p10, 0, [nF 2, nF 3, nF 4], false⟩, ⟨p14, 0, [n2 6, n2 7, n2 8], false⟩, ⟨lS44, (i27 * 9), [n2 14, n2 15, n2 16, nF 17, nF 18, nF 19, nF 20, nI 21, nI 22], false⟩]) (env := [(29, n1 1), (31, nI 11), (33, nI 11), (4, .ptr 0 0), (8, .ptr 1 0), (2, nF 5), (10, nI 12), (11, nF 13), (30, nI 10)]) q47 (.cons (wR r42 q47) (.cons (wR r43 q47) (.cons (win_elem hr gS44 hlt44 rfl (by rw [hm44]; exact (dL q47))) .nil))) (sepOk_ro rfl) (.cons (rule_iaS (k := i27) (dE q47) eS44 (dE q47) hlt44 rfl) (.cons (rule_call (args := [.agg [.int .i32 v44_0, .int .i32 v44_1, .int .i32 v44_2, .flt .f32 v44_3, .flt .f32 v44_4, .flt .f32 v44_5, .flt .f32 v44_6, .int .i64 v44_7, .int .i64 v44_8], .agg [.flt .f32 a, .flt .f32 b, .flt .f32 c]]) (dL q47) (dE q47) (fun H9 hk => k_far [.int .i32 v44_0, .int .i32 v44_1, .int .i32 v44_2, .flt .f32 v44_3, .flt .f32 v44_4, .flt .f32 v44_5, .flt .f32 v44_6, .int .i64 v44_7, .int .i64 v44_8] [.flt .f32 a, .flt .f32 b, .flt .f32 c] (.cons ⟨_, rfl⟩ (.cons ⟨_, rfl⟩ (.cons ⟨_, rfl⟩ (.cons ⟨_, rfl, ho44_3⟩ (.cons ⟨_, rfl, ho44_4⟩ (.cons ⟨_, rfl, ho44_5⟩ (.cons ⟨_, rfl, ho44_6⟩ (.cons ⟨_, rfl⟩ (.cons ⟨_, rfl⟩ .nil))))))))) (.cons ⟨_, rfl, ha⟩ (.cons ⟨_, rfl, hb⟩ (.cons ⟨_, rfl, hc⟩ .nil))) H9)) (.cons (rule_call (args := [.agg [.int .i32 v44_0, .int .i32 v44_1, .int .i32 v44_2], .agg [.int .i32 c0, .int .i32 c1, .int .i32 c2]]) (dL q47) (dE q47) (fun H9 hk => k_besides [.int .i32 v44_0, .int .i32 v44_1, .int .i32 v44_2] [.int .i32 c0, .int .i32 c1, .int .i32 c2] (.cons ⟨_, rfl⟩ (.cons ⟨_, rfl⟩ (.cons ⟨_, rfl⟩ .nil))) (.cons ⟨_, rfl⟩ (.cons ⟨_, rfl⟩ (.cons ⟨_, rfl⟩ .nil))) H9)) .nil))) (eC q47 (.cons b31 (.cons b32 (.cons b33 (.cons b34 (.cons b35 (.cons b36 (.cons b37 (.cons b38 (.cons b39 .nil)))))))))) tb_ok ap_ok ?_
   refine all5 (by kernel_rfl) ?_ ?_ ?_ ?_ ?_
   ·
    intro vs ls H48 E48 st hE
    have f49 : (nearT [.flt .f32 a, .flt .f32 b, .flt .f32 c] g [.int .i32 c0, .int .i32 c1, .int .i32 c2] ms i27).1 < 0 := dt st 0
    have f50 : (ford .f32 (awayF [.flt .f32 a, .flt .f32 b, .flt .f32 c] [.int .i32 v44_0, .int .i32 v44_1, .int .i32 v44_2, .flt .f32 v44_3, .flt .f32 v44_4, .flt .f32 v44_5, .flt .f32 v44_6, .int .i64 v44_7, .int .i64 v44_8]) g == some .lt || ford .f32 (awayF [.flt .f32 a, .flt .f32 b, .flt .f32 c] [.int .i32 v44_0, .int .i32 v44_1, .int .i32 v44_2, .flt .f32 v44_3, .flt .f32 v44_4, .flt .f32 v44_5, .flt .f32 v44_6, .int .i64 v44_7, .int .i64 v44_8]) g == some .eq) = true := bf st 1
    have f51 : (besB [.int .i32 v44_0, .int .i32 v44_1, .int .i32 v44_2] [.int .i32 c0, .int .i32 c1, .int .i32 c2]) = true := bf st 2
    obtain ⟨w52, hw52⟩ : ∃ z, z = (IntKind.wrap .i64 ((i27 : Int) + 1)) := ⟨_, rfl⟩
    have b53 : E48 31 = .int .i64 w52 := by rw [hw52]; exact eo st hE 31 _
    have b54 := eo st hE 30 (.int .i64 (ms.length : Int))
    have b55 := eo st hE 29 S
    have b56 := eo st hE 4 (.ptr p10 0)
    have b57 := eo st hE 8 (.ptr p14 0)
    have b58 := eo st hE 2 (.flt .f32 g)
    have b59 := eo st hE 10 (.int .i64 (i27 : Int))
    have b60 := eo st hE 11 (.flt .f32 (awayF [.flt .f32 a, .flt .f32 b, .flt .f32 c] [.int .i32 v44_0, .int .i32 v44_1, .int .i32 v44_2, .flt .f32 v44_3, .flt .f32 v44_4, .flt .f32 v44_5, .flt .f32 v44_6, .int .i64 v44_7, .int .i64 v44_8]))
    have g61 : Grew H29 H48 := (gk st)
    have g62 : Grew H H48 := Grew.trans g41 g61
    have r63 := g61.at r42
    have r64 := g61.at r43
    clear st hE vs ls
    have hz9 : z27 - 1 < z27 := by omega
    have hy9 : z27 - 1 + (i27 + 1) = ms.length := by omega
    have hi9 : E48 31 = .int .i64 ((i27 + 1 : Nat) : Int) := by rw [b53, hw52, wrap64 (by omega)]
    have hn9 : nearT [.flt .f32 a, .flt .f32 b, .flt .f32 c] g [.int .i32 c0, .int .i32 c1, .int .i32 c2] ms (i27 + 1) = ((i27 : Int), (awayF [.flt .f32 a, .flt .f32 b, .flt .f32 c] [.int .i32 v44_0, .int .i32 v44_1, .int .i32 v44_2, .flt .f32 v44_3, .flt .f32 v44_4, .flt .f32 v44_5, .flt .f32 v44_6, .int .i64 v44_7, .int .i64 v44_8])) := by
     show nearS _ _ _ _ _ _ = _; unfold nearS; rw [he44, show List.take 3 ([.int .i32 v44_0, .int .i32 v44_1, .int .i32 v44_2, .flt .f32 v44_3, .flt .f32 v44_4, .flt .f32 v44_5, .flt .f32 v44_6, .int .i64 v44_7, .int .i64 v44_8] : List AV) = [.int .i32 v44_0, .int .i32 v44_1, .int .i32 v44_2] from rfl, if_pos f51, if_pos (show leq32 (awayF [.flt .f32 a, .flt .f32 b, .flt .f32 c] [.int .i32 v44_0, .int .i32 v44_1, .int .i32 v44_2, .flt .f32 v44_3, .flt .f32 v44_4, .flt .f32 v44_5, .flt .f32 v44_6, .int .i64 v44_7, .int .i64 v44_8]) g = true from f50), if_pos f49]
    exact res_norm (by kernel_rfl) ⟨z27 - 1, hz9, i27 + 1, hy9, b54, b55, b56, b57, b58, hi9, (by rw [hn9]; exact b59), (by rw [hn9]; exact b60), g62, r63, r64⟩
   ·
    intro vs ls H66 E66 st hE
    have f67 : (ford .f32 (awayF [.flt .f32 a, .flt .f32 b, .flt .f32 c] [.int .i32 v44_0, .int .i32 v44_1, .int .i32 v44_2, .flt .f32 v44_3, .flt .f32 v44_4, .flt .f32 v44_5, .flt .f32 v44_6, .int .i64 v44_7, .int .i64 v44_8]) (nearT [.flt .f32 a, .flt .f32 b, .flt .f32 c] g [.int .i32 c0, .int .i32 c1, .int .i32 c2] ms i27).2 == some .lt) = true := bf st 0
    have f68 : ¬ ((nearT [.flt .f32 a, .flt .f32 b, .flt .f32 c] g [.int .i32 c0, .int .i32 c1, .int .i32 c2] ms i27).1 < 0) := df st 1
    have f69 : (ford .f32 (awayF [.flt .f32 a, .flt .f32 b, .flt .f32 c] [.int .i32 v44_0, .int .i32 v44_1, .int .i32 v44_2, .flt .f32 v44_3, .flt .f32 v44_4, .flt .f32 v44_5, .flt .f32 v44_6, .int .i64 v44_7, .int .i64 v44_8]) g == some .lt || ford .f32 (awayF [.flt .f32 a, .flt .f32 b, .flt .f32 c] [.int .i32 v44_0, .int .i32 v44_1, .int .i32 v44_2, .flt .f32 v44_3, .flt .f32 v44_4, .flt .f32 v44_5, .flt .f32 v44_6, .int .i64 v44_7, .int .i64 v44_8]) g == some .eq) = true := bf st 2
    have f70 : (besB [.int .i32 v44_0, .int .i32 v44_1, .int .i32 v44_2] [.int .i32 c0, .int .i32 c1, .int .i32 c2]) = true := bf st 3
    obtain ⟨w71, hw71⟩ : ∃ z, z = (IntKind.wrap .i64 ((i27 : Int) + 1)) := ⟨_, rfl⟩
    have b72 : E66 31 = .int .i64 w71 := by rw [hw71]; exact eo st hE 31 _
    have b73 := eo st hE 30 (.int .i64 (ms.length : Int))
    have b74 := eo st hE 29 S
    have b75 := eo st hE 4 (.ptr p10 0)
    have b76 := eo st hE 8 (.ptr p14 0)
    have b77 := eo st hE 2 (.flt .f32 g)
    have b78 := eo st hE 10 (.int .i64 (i27 : Int))
    have b79 := eo st hE 11 (.flt .f32 (awayF [.flt .f32 a, .flt .f32 b, .flt .f32 c] [.int .i32 v44_0, .int .i32 v44_1, .int .i32 v44_2, .flt .f32 v44_3, .flt .f32 v44_4, .flt .f32 v44_5, .flt .f32 v44_6, .int .i64 v44_7, .int .i64 v44_8]))
    have g80 : Grew H29 H66 := (gk st)
    have g81 : Grew H H66 := Grew.trans g41 g80
    have r82 := g80.at r42
    have r83 := g80.at r43
    clear st hE vs ls
    have hz9 : z27 - 1 < z27 := by omega
    have hy9 : z27 - 1 + (i27 + 1) = ms.length := by omega
    have hi9 : E66 31 = .int .i64 ((i27 + 1 : Nat) : Int) := by rw [b72, hw71, wrap64 (by omega)]
    have hn9 : nearT [.flt .f32 a, .flt .f32 b, .flt .f32 c] g [.int .i32 c0, .int .i32 c1, .int .i32 c2] ms (i27 + 1) = ((i27 : Int), (awayF [.flt .f32 a, .flt .f32 b, .flt .f32 c] [.int .i32 v44_0, .int .i32 v44_1, .int .i32 v44_2, .flt .f32 v44_3, .flt .f32 v44_4, .flt .f32 v44_5, .flt .f32 v44_6, .int .i64 v44_7, .int .i64 v44_8])) := by
     show nearS _ _ _ _ _ _ = _; unfold nearS; rw [he44, show List.take 3 ([.int .i32 v44_0, .int .i32 v44_1, .int .i32 v44_2, .flt .f32 v44_3, .flt .f32 v44_4, .flt .f32 v44_5, .flt .f32 v44_6, .int .i64 v44_7, .int .i64 v44_8] : List AV) = [.int .i32 v44_0, .int .i32 v44_1, .int .i32 v44_2] from rfl, if_pos f70, if_pos (show leq32 (awayF [.flt .f32 a, .flt .f32 b, .flt .f32 c] [.int .i32 v44_0, .int .i32 v44_1, .int .i32 v44_2, .flt .f32 v44_3, .flt .f32 v44_4, .flt .f32 v44_5, .flt .f32 v44_6, .int .i64 v44_7, .int .i64 v44_8]) g = true from f69), if_neg f68, if_pos f67]
    exact res_norm (by kernel_rfl) ⟨z27 - 1, hz9, i27 + 1, hy9, b73, b74, b75, b76, b77, hi9, (by rw [hn9]; exact b78), (by rw [hn9]; exact b79), g81, r82, r83⟩
   ·
    intro vs ls H85 E85 st hE
    have f86 : (ford .f32 (awayF [.flt .f32 a, .flt .f32 b, .flt .f32 c] [.int .i32 v44_0, .int .i32 v44_1, .int .i32 v44_2, .flt .f32 v44_3, .flt .f32 v44_4, .flt .f32 v44_5, .flt .f32 v44_6, .int .i64 v44_7, .int .i64 v44_8]) (nearT [.flt .f32 a, .flt .f32 b, .flt .f32 c] g [.int .i32 c0, .int .i32 c1, .int .i32 c2] ms i27).2 == some .lt) = false := bf st 0
    have f87 : ¬ ((nearT [.flt .f32 a, .flt .f32 b, .flt .f32 c] g [.int .i32 c0, .int .i32 c1, .int .i32 c2] ms i27).1 < 0) := df st 1
    have f88 : (ford .f32 (awayF [.flt .f32 a, .flt .f32 b, .flt .f32 c] [.int .i32 v44_0, .int .i32 v44_1, .int .i32 v44_2, .flt .f32 v44_3, .flt .f32 v44_4, .flt .f32 v44_5, .flt .f32 v44_6, .int .i64 v44_7, .int .i64 v44_8]) g == some .lt || ford .f32 (awayF [.flt .f32 a, .flt .f32 b, .flt .f32 c] [.int .i32 v44_0, .int .i32 v44_1, .int .i32 v44_2, .flt .f32 v44_3, .flt .f32 v44_4, .flt .f32 v44_5, .flt .f32 v44_6, .int .i64 v44_7, .int .i64 v44_8]) g == some .eq) = true := bf st 2
    have f89 : (besB [.int .i32 v44_0, .int .i32 v44_1, .int .i32 v44_2] [.int .i32 c0, .int .i32 c1, .int .i32 c2]) = true := bf st 3
    obtain ⟨w90, hw90⟩ : ∃ z, z = (IntKind.wrap .i64 ((i27 : Int) + 1)) := ⟨_, rfl⟩
    have b91 : E85 31 = .int .i64 w90 := by rw [hw90]; exact eo st hE 31 _
    have b92 := eo st hE 30 (.int .i64 (ms.length : Int))
    have b93 := eo st hE 29 S
    have b94 := eo st hE 4 (.ptr p10 0)
    have b95 := eo st hE 8 (.ptr p14 0)
    have b96 := eo st hE 2 (.flt .f32 g)
    have b97 := eo st hE 10 (.int .i64 (nearT [.flt .f32 a, .flt .f32 b, .flt .f32 c] g [.int .i32 c0, .int .i32 c1, .int .i32 c2] ms i27).1)
    have b98 := eo st hE 11 (.flt .f32 (nearT [.flt .f32 a, .flt .f32 b, .flt .f32 c] g [.int .i32 c0, .int .i32 c1, .int .i32 c2] ms i27).2)
    have g99 : Grew H29 H85 := (gk st)
    have g100 : Grew H H85 := Grew.trans g41 g99
    have r101 := g99.at r42
    have r102 := g99.at r43
    clear st hE vs ls
    have hz9 : z27 - 1 < z27 := by omega
    have hy9 : z27 - 1 + (i27 + 1) = ms.length := by omega
    have hi9 : E85 31 = .int .i64 ((i27 + 1 : Nat) : Int) := by rw [b91, hw90, wrap64 (by omega)]
    have hn9 : nearT [.flt .f32 a, .flt .f32 b, .flt .f32 c] g [.int .i32 c0, .int .i32 c1, .int .i32 c2] ms (i27 + 1) = (nearT [.flt .f32 a, .flt .f32 b, .flt .f32 c] g [.int .i32 c0, .int .i32 c1, .int .i32 c2] ms i27) := by
     show nearS _ _ _ _ _ _ = _; unfold nearS; rw [he44, show List.take 3 ([.int .i32 v44_0, .int .i32 v44_1, .int .i32 v44_2, .flt .f32 v44_3, .flt .f32 v44_4, .flt .f32 v44_5, .flt .f32 v44_6, .int .i64 v44_7, .int .i64 v44_8] : List AV) = [.int .i32 v44_0, .int .i32 v44_1, .int .i32 v44_2] from rfl, if_pos f89, if_pos (show leq32 (awayF [.flt .f32 a, .flt .f32 b, .flt .f32 c] [.int .i32 v44_0, .int .i32 v44_1, .int .i32 v44_2, .flt .f32 v44_3, .flt .f32 v44_4, .flt .f32 v44_5, .flt .f32 v44_6, .int .i64 v44_7, .int .i64 v44_8]) g = true from f88), if_neg f87, if_neg (by rw [f86]; decide)]
    exact res_norm (by kernel_rfl) ⟨z27 - 1, hz9, i27 + 1, hy9, b92, b93, b94, b95, b96, hi9, (by rw [hn9]; exact b97), (by rw [hn9]; exact b98), g100, r101, r102⟩
   ·
    intro vs ls H104 E104 st hE
    have f105 : (ford .f32 (awayF [.flt .f32 a, .flt .f32 b, .flt .f32 c] [.int .i32 v44_0, .int .i32 v44_1, .int .i32 v44_2, .flt .f32 v44_3, .flt .f32 v44_4, .flt .f32 v44_5, .flt .f32 v44_6, .int .i64 v44_7, .int .i64 v44_8]) g == some .lt || ford .f32 (awayF [.flt .f32 a, .flt .f32 b, .flt .f32 c] [.int .i32 v44_0, .int .i32 v44_1, .int .i32 v44_2, .flt .f32 v44_3, .flt .f32 v44_4, .flt .f32 v44_5, .flt .f32 v44_6, .int .i64 v44_7, .int .i64 v44_8]) g == some .eq) = false := bf st 0
    have f106 : (besB [.int .i32 v44_0, .int .i32 v44_1, .int .i32 v44_2] [.int .i32 c0, .int .i32 c1, .int .i32 c2]) = true := bf st 1
    obtain ⟨w107, hw107⟩ : ∃ z, z = (IntKind.wrap .i64 ((i27 : Int) + 1)) := ⟨_, rfl⟩
    have b108 : E104 31 = .int .i64 w107 := by rw [hw107]; exact eo st hE 31 _
    have b109 := eo st hE 30 (.int .i64 (ms.length : Int))
    have b110 := eo st hE 29 S
    have b111 := eo st hE 4 (.ptr p10 0)
    have b112 := eo st hE 8 (.ptr p14 0)
    have b113 := eo st hE 2 (.flt .f32 g)
    have b114 := eo st hE 10 (.int .i64 (nearT [.flt .f32 a, .flt .f32 b, .flt .f32 c] g [.int .i32 c0, .int .i32 c1, .int .i32 c2] ms i27).1)
    have b115 := eo st hE 11 (.flt .f32 (nearT [.flt .f32 a, .flt .f32 b, .flt .f32 c] g [.int .i32 c0, .int .i32 c1, .int .i32 c2] ms i27).2)
    have g116 : Grew H29 H104 := (gk st)
    have g117 : Grew H H104 := Grew.trans g41 g116
    have r118 := g116.at r42
    have r119 := g116.at r43
    clear st hE vs ls
    have hz9 : z27 - 1 < z27 := by omega
    have hy9 : z27 - 1 + (i27 + 1) = ms.length := by omega
    have hi9 : E104 31 = .int .i64 ((i27 + 1 : Nat) : Int) := by rw [b108, hw107, wrap64 (by omega)]
    have hn9 : nearT [.flt .f32 a, .flt .f32 b, .flt .f32 c] g [.int .i32 c0, .int .i32 c1, .int .i32 c2] ms (i27 + 1) = (nearT [.flt .f32 a, .flt .f32 b, .flt .f32 c] g [.int .i32 c0, .int .i32 c1, .int .i32 c2] ms i27) := by
     show nearS _ _ _ _ _ _ = _; unfold nearS; rw [he44, show List.take 3 ([.int .i32 v44_0, .int .i32 v44_1, .int .i32 v44_2, .flt .f32 v44_3, .flt .f32 v44_4, .flt .f32 v44_5, .flt .f32 v44_6, .int .i64 v44_7, .int .i64 v44_8] : List AV) = [.int .i32 v44_0, .int .i32 v44_1, .int .i32 v44_2] from rfl, if_pos f106, if_neg (by unfold leq32; rw [f105]; decide)]
    exact res_norm (by kernel_rfl) ⟨z27 - 1, hz9, i27 + 1, hy9, b109, b110, b111, b112, b113, hi9, (by rw [hn9]; exact b114), (by rw [hn9]; exact b115), g117, r118, r119⟩
   ·
    intro vs ls H121 E121 st hE
    have f122 : (besB [.int .i32 v44_0, .int .i32 v44_1, .int .i32 v44_2] [.int .i32 c0, .int .i32 c1, .int .i32 c2]) = false := bf st 0
    obtain ⟨w123, hw123⟩ : ∃ z, z = (IntKind.wrap .i64 ((i27 : Int) + 1)) := ⟨_, rfl⟩
    have b124 : E121 31 = .int .i64 w123 := by rw [hw123]; exact eo st hE 31 _
    have b125 := eo st hE 30 (.int .i64 (ms.length : Int))
    have b126 := eo st hE 29 S
    have b127 := eo st hE 4 (.ptr p10 0)
    have b128 := eo st hE 8 (.ptr p14 0)
    have b129 := eo st hE 2 (.flt .f32 g)
    have b130 := eo st hE 10 (.int .i64 (nearT [.flt .f32 a, .flt .f32 b, .flt .f32 c] g [.int .i32 c0, .int .i32 c1, .int .i32 c2] ms i27).1)
    have b131 := eo st hE 11 (.flt .f32 (nearT [.flt .f32 a, .flt .f32 b, .flt .f32 c] g [.int .i32 c0, .int .i32 c1, .int .i32 c2] ms i27).2)
    have g132 : Grew H29 H121 := (gk st)
    have g133 : Grew H H121 := Grew.trans g41 g132
    have r134 := g132.at r42
    have r135 := g132.at r43
    clear st hE vs ls
    have hz9 : z27 - 1 < z27 := by omega
    have hy9 : z27 - 1 + (i27 + 1) = ms.length := by omega
    have hi9 : E121 31 = .int .i64 ((i27 + 1 : Nat) : Int) := by rw [b124, hw123, wrap64 (by omega)]
    have hn9 : nearT [.flt .f32 a, .flt .f32 b, .flt .f32 c] g [.int .i32 c0, .int .i32 c1, .int .i32 c2] ms (i27 + 1) = (nearT [.flt .f32 a, .flt .f32 b, .flt .f32 c] g [.int .i32 c0, .int .i32 c1, .int .i32 c2] ms i27) := by
     show nearS _ _ _ _ _ _ = _; unfold nearS; rw [he44, show List.take 3 ([.int .i32 v44_0, .int .i32 v44_1, .int .i32 v44_2, .flt .f32 v44_3, .flt .f32 v44_4, .flt .f32 v44_5, .flt .f32 v44_6, .int .i64 v44_7, .int .i64 v44_8] : List AV) = [.int .i32 v44_0, .int .i32 v44_1, .int .i32 v44_2] from rfl, if_neg (by rw [f122]; decide)]
    exact res_norm (by kernel_rfl) ⟨z27 - 1, hz9, i27 + 1, hy9, b125, b126, b127, b128, b129, hi9, (by rw [hn9]; exact b130), (by rw [hn9]; exact b131), g133, r134, r135⟩
  ·
   intro vs ls H137 E137 st hE
   have f138 : ¬ ((i27 : Int) < (ms.length : Int)) := df st 0
   have b139 := eo st hE 31 (.int .i64 (i27 : Int))
   have b140 := eo st hE 30 (.int .i64 (ms.length : Int))
   obtain ⟨w141, hw141⟩ : ∃ z, z = (decide ((i27 : Int) < (ms.length : Int))) := ⟨_, rfl⟩
   have b142 : E137 32 = .bool w141 := by rw [hw141]; exact eo st hE 32 _
   have b143 := eo st hE 29 S
   have b144 := eo st hE 4 (.ptr p10 0)
   have b145 := eo st hE 8 (.ptr p14 0)
   have b146 := eo st hE 2 (.flt .f32 g)
   have b147 := eo st hE 10 (.int .i64 (nearT [.flt .f32 a, .flt .f32 b, .flt .f32 c] g [.int .i32 c0, .int .i32 c1, .int .i32 c2] ms i27).1)
   have b148 := eo st hE 11 (.flt .f32 (nearT [.flt .f32 a, .flt .f32 b, .flt .f32 c] g [.int .i32 c0, .int .i32 c1, .int .i32 c2] ms i27).2)
   have g149 : Grew Hi27 H137 := (gk st)
   have g150 : Grew H H137 := Grew.trans gt27 g149
   have r151 := g149.at r27_0
   have r152 := g149.at r27_1
   clear st hE vs ls
   refine res_exit (id := 0) (by kernel_rfl) ?_
   have q153 := q28.app (.cons ⟨_, rfl⟩ .nil : KdsL [.bool] [.bool w141])
   refine run_mc (φ := φ0) (pm := pmR 2 [] 0) 20 (ws := [⟨p10, 0, [nF 2, nF 3, nF 4], false⟩, ⟨p14, 0, [n2 6, n2 7, n2 8], false⟩]) (env := [(31, nI 11), (30, nI 10), (32, nB 14), (29, n1 1), (4, .ptr 0 0), (8, .ptr 1 0), (2, nF 5), (10, nI 12), (11, nF 13)]) q153 (.cons (wR r151 q153) (.cons (wR r152 q153) .nil)) (sepOk_ro rfl) .nil (eC q153 (.cons b139 (.cons b140 (.cons b142 (.cons b143 (.cons b144 (.cons b145 (.cons b146 (.cons b147 (.cons b148 .nil)))))))))) tb_ok ap_ok ?_
   refine all2 (by kernel_rfl) ?_ ?_
   ·
    intro vs ls H154 E154 st hE
    have f155 : (nearT [.flt .f32 a, .flt .f32 b, .flt .f32 c] g [.int .i32 c0, .int .i32 c1, .int .i32 c2] ms i27).1 < 0 := dt st 0
    refine res_ex (by kernel_rfl) (end_flat st.inn hE (.inr rfl) (a := .tuple [.int .i64 0, .int .i64 6]) (by kernel_rfl) (Grew.trans g150 (gk st)) rfl ⟨?_, rfl⟩)
    have hI : nearI x ms a b c g = ((nearT [.flt .f32 a, .flt .f32 b, .flt .f32 c] g [.int .i32 c0, .int .i32 c1, .int .i32 c2] ms ms.length).1, (0 : Int)) := by
     unfold nearI; rw [if_pos (show leq32 (some 0) g = true from f9), hce]; show (if d = 0 then _ else _) = _; rw [if_pos f8]
    rw [show ms.length = i27 by omega] at hI
    unfold nearM; rw [hI]
    show _ = AV.tuple [.int .i64 (if (0 : Int) = 0 then (if (nearT [.flt .f32 a, .flt .f32 b, .flt .f32 c] g [.int .i32 c0, .int .i32 c1, .int .i32 c2] ms i27).1 < 0 then ((0 : Int), (6 : Int)) else ((nearT [.flt .f32 a, .flt .f32 b, .flt .f32 c] g [.int .i32 c0, .int .i32 c1, .int .i32 c2] ms i27).1, 0)) else (0, 0)).1, .int .i64 (if (0 : Int) = 0 then (if (nearT [.flt .f32 a, .flt .f32 b, .flt .f32 c] g [.int .i32 c0, .int .i32 c1, .int .i32 c2] ms i27).1 < 0 then ((0 : Int), (6 : Int)) else ((nearT [.flt .f32 a, .flt .f32 b, .flt .f32 c] g [.int .i32 c0, .int .i32 c1, .int .i32 c2] ms i27).1, 0)) else (0, 0)).2]; rw [if_pos rfl, if_pos f155]
   ·
    intro vs ls H156 E156 st hE
    have f157 : ¬ ((nearT [.flt .f32 a, .flt .f32 b, .flt .f32 c] g [.int .i32 c0, .int .i32 c1, .int .i32 c2] ms i27).1 < 0) := df st 0
    refine res_ex (by kernel_rfl) (end_flat st.inn hE (.inr rfl) (a := .tuple [.int .i64 (nearT [.flt .f32 a, .flt .f32 b, .flt .f32 c] g [.int .i32 c0, .int .i32 c1, .int .i32 c2] ms i27).1, .int .i64 0]) (by kernel_rfl) (Grew.trans g150 (gk st)) rfl ⟨?_, rfl⟩)
    have hI : nearI x ms a b c g = ((nearT [.flt .f32 a, .flt .f32 b, .flt .f32 c] g [.int .i32 c0, .int .i32 c1, .int .i32 c2] ms ms.length).1, (0 : Int)) := by
     unfold nearI; rw [if_pos (show leq32 (some 0) g = true from f9), hce]; show (if d = 0 then _ else _) = _; rw [if_pos f8]
    rw [show ms.length = i27 by omega] at hI
    unfold nearM; rw [hI]
    show _ = AV.tuple [.int .i64 (if (0 : Int) = 0 then (if (nearT [.flt .f32 a, .flt .f32 b, .flt .f32 c] g [.int .i32 c0, .int .i32 c1, .int .i32 c2] ms i27).1 < 0 then ((0 : Int), (6 : Int)) else ((nearT [.flt .f32 a, .flt .f32 b, .flt .f32 c] g [.int .i32 c0, .int .i32 c1, .int .i32 c2] ms i27).1, 0)) else (0, 0)).1, .int .i64 (if (0 : Int) = 0 then (if (nearT [.flt .f32 a, .flt .f32 b, .flt .f32 c] g [.int .i32 c0, .int .i32 c1, .int .i32 c2] ms i27).1 < 0 then ((0 : Int), (6 : Int)) else ((nearT [.flt .f32 a, .flt .f32 b, .flt .f32 c] g [.int .i32 c0, .int .i32 c1, .int .i32 c2] ms i27).1, 0)) else (0, 0)).2]; rw [if_pos rfl, if_neg f157]
theorem k_l05Nearest (H : AHeap) (x : Option Nat) (hx : fOk .f32 x) (ms : List (List AV)) (hr : Recs KM ms) (S : AV) (hS : SlL H 9 ms S) (mxms : ms.length ≤ 1048576) (a b c : Option Nat) (ha : fOk .f32 a) (hb : fOk .f32 b) (hc : fOk .f32 c) (g : Option Nat) (hg : fOk .f32 g) (l : Nat) (hl : H.get l = some (.row [.flt .f32 x, S] true)) : APure Try.prog 89 [.ptr l 0, .agg [.flt .f32 a, .flt .f32 b, .flt .f32 c], .flt .f32 g] H (.tuple [.int .i64 (nearI x ms a b c g).1, .int .i64 (nearI x ms a b c g).2]) := by
 obtain ⟨c0, c1, c2, d, hce⟩ := cellX_form x a b c
 have kc1 := fun H => k_CellOf x a b c hx ha hb hc H
 have kc2 := fun H => k_l05Cell x a b c hx ha hb hc H
 rw [hce] at kc1 kc2
 refine res_start h_spec_l05Nearest (by simp) ?_
 have q1 : KdsL [KF, .one, KF, KF, KF, KF, K2, K2, K2, KI] [.flt .f32 x, S, .flt .f32 a, .flt .f32 b, .flt .f32 c, .flt .f32 g, .int .i32 c0, .int .i32 c1, .int .i32 c2, .int .i64 d] := .cons ⟨_, rfl, hx⟩ (.cons (slOne hS) (.cons ⟨_, rfl, ha⟩ (.cons ⟨_, rfl, hb⟩ (.cons ⟨_, rfl, hc⟩ (.cons ⟨_, rfl, hg⟩ (.cons ⟨_, rfl⟩ (.cons ⟨_, rfl⟩ (.cons ⟨_, rfl⟩ (.cons ⟨_, rfl⟩ .nil)))))))))
 refine run_mc (φ := φ0) (pm := pmR 1 [(.call 60 [nF 0, .agg [nF 2, nF 3, nF 4]], .tup [.agg [n2 6, n2 7, n2 8], nI 9])] 0) 20 (ws := [⟨l, 0, [nF 0, n1 1], false⟩]) (env := [(0, .ptr 0 0), (1, .agg [nF 2, nF 3, nF 4]), (2, nF 5)]) q1 (.cons (wR hl q1) .nil) (sepOk_ro rfl) (.cons (rule_call (args := [.flt .f32 x, .agg [.flt .f32 a, .flt .f32 b, .flt .f32 c]]) (dL q1) (dE q1) (fun H9 hk => kc2 H9)) .nil) (eC q1 (.cons (t := 0) rfl (.cons (t := 1) rfl (.cons (t := 2) rfl .nil)))) tb_ok ap_ok ?_
 refine all4 (by kernel_rfl) ?_ ?_ ?_ ?_
 ·
  intro vs ls H2 E2 st hE
  have f3 : d = 2 := dt st 0
  refine res_ex (by kernel_rfl) (end_flat st.inn hE (.inr rfl) (a := .tuple [.int .i64 (-1), .int .i64 2]) (by kernel_rfl) (Grew.trans (Grew.refl _) (gk st)) rfl ⟨?_, rfl⟩)
  have hI : nearI x ms a b c g = ((-1 : Int), (2 : Int)) := by
   unfold nearI; rw [hce, f3]; show (if leq32 (some 0) g = true then (if (2 : Int) = 0 then _ else ((-1 : Int), (2 : Int))) else ((-1 : Int), (2 : Int))) = ((-1 : Int), (2 : Int)); rw [if_neg (show ¬ (2 : Int) = 0 by decide)]; split <;> rfl
  rw [hI]
 ·
  intro vs ls H4 E4 st hE
  have f5 : (ford .f32 (some 0) g == some .lt || ford .f32 (some 0) g == some .eq) = false := bf st 0
  have f6 : ¬ (d = 2) := df st 1
  refine res_ex (by kernel_rfl) (end_flat st.inn hE (.inr rfl) (a := .tuple [.int .i64 (-1), .int .i64 2]) (by kernel_rfl) (Grew.trans (Grew.refl _) (gk st)) rfl ⟨?_, rfl⟩)
  have hI : nearI x ms a b c g = ((-1 : Int), (2 : Int)) := by
   unfold nearI; rw [if_neg (by unfold leq32; rw [f5]; decide)]
  rw [hI]
 ·
  intro vs ls H7 E7 st hE
  have f8 : ¬ (d = 0) := df st 0
  have f9 : (ford .f32 (some 0) g == some .lt || ford .f32 (some 0) g == some .eq) = true := bf st 1
  have f10 : ¬ (d = 2) := df st 2
  refine res_ex (by kernel_rfl) (end_flat st.inn hE (.inr rfl) (a := .tuple [.int .i64 (-1), .int .i64 d]) (by kernel_rfl) (Grew.trans (Grew.refl _) (gk st)) rfl ⟨?_, rfl⟩)
  have hI : nearI x ms a b c g = ((-1 : Int), d) := by
   unfold nearI; rw [if_pos (show leq32 (some 0) g = true from f9), hce]; show (if d = 0 then _ else _) = _; rw [if_neg f8]
  rw [hI]
 ·
  intro vs ls H11 E11 st hE
  have f12 : d = 0 := dt st 0
  have f13 : (ford .f32 (some 0) g == some .lt || ford .f32 (some 0) g == some .eq) = true := bf st 1
  have f14 : ¬ (d = 2) := df st 2
  obtain ⟨p15, e16, r17, n18⟩ := ptr_of st.inn hE 8 2 (by kernel_rfl) (ds := [.int .i32 c0, .int .i32 c1, .int .i32 c2]) (by kernel_rfl)
  have op15 : H.next ≤ p15 := Nat.le_trans (Nat.le_refl _) (n18 (Nat.le_of_ble_eq_true rfl))
  obtain ⟨p19, e20, r21, n22⟩ := ptr_of st.inn hE 4 1 (by kernel_rfl) (ds := [.flt .f32 a, .flt .f32 b, .flt .f32 c]) (by kernel_rfl)
  have op19 : H.next ≤ p19 := Nat.le_trans (Nat.le_refl _) (n22 (Nat.le_of_ble_eq_true rfl))
  have ne23 : Apart p15 p19 := ⟨ptr_ne st.inn hE 8 2 4 1 (by kernel_rfl) (by kernel_rfl) (cs := [.nd 6 (.int .i32), .nd 7 (.int .i32), .nd 8 (.int .i32)]) (by kernel_rfl) (by decide) e16 e20⟩
  have ne24 := apn hl (n18 (Nat.le_of_ble_eq_true rfl))
  have ne25 := apn hl (n22 (Nat.le_of_ble_eq_true rfl))
  have b26 := eo st hE 12 (.int .i64 0)
  have b27 := eo st hE 0 (.ptr l 0)
  have b28 := eo st hE 2 (.flt .f32 g)
  have b29 := eo st hE 10 (.int .i64 (-1))
  have b30 := eo st hE 11 (.flt .f32 (some 0))
  have g31 : Grew H H11 := (gk st)
  have g32 : Grew H H11 := Grew.trans (Grew.refl _) g31
  have r33 := g31.at hl
  clear st hE vs ls
  refine res_loop (by kernel_rfl) (fun z E H' => ∃ (i : Nat), z + i = ms.length ∧ E 0 = .ptr l 0 ∧ E 8 = .ptr p15 0 ∧ E 4 = .ptr p19 0 ∧ E 2 = .flt .f32 g ∧ E 12 = .int .i64 (i : Int) ∧ E 10 = .int .i64 (nearT [.flt .f32 a, .flt .f32 b, .flt .f32 c] g [.int .i32 c0, .int .i32 c1, .int .i32 c2] ms i).1 ∧ E 11 = .flt .f32 (nearT [.flt .f32 a, .flt .f32 b, .flt .f32 c] g [.int .i32 c0, .int .i32 c1, .int .i32 c2] ms i).2 ∧ Grew H H' ∧ H'.get l = some (.row [.flt .f32 x, S] true) ∧ H'.get p15 = some (.row [.int .i32 c0, .int .i32 c1, .int .i32 c2] true) ∧ H'.get p19 = some (.row [.flt .f32 a, .flt .f32 b, .flt .f32 c] true)) (ms.length) ⟨0, by omega, b27, e16, e20, b28, b26, b29, b30, g32, r33, r17, r21⟩ ?_
  rintro z34 Ei34 Hi34 ⟨i34, hz34, c34_0, c34_8, c34_4, c34_2, ci34, cv34_10, cv34_11, gt34, r34_0, r34_1, r34_2⟩
  have q35 := q1.app (.cons ⟨_, rfl⟩ (.cons ⟨_, rfl⟩ (.cons ⟨_, rfl, (nearT_inv [.flt .f32 a, .flt .f32 b, .flt .f32 c] g [.int .i32 c0, .int .i32 c1, .int .i32 c2] ms i34).1⟩ (.cons ⟨_, rfl⟩ .nil))) : KdsL [KI, KI, KF, KI] [.int .i64 (i34 : Int), .int .i64 (nearT [.flt .f32 a, .flt .f32 b, .flt .f32 c] g [.int .i32 c0, .int .i32 c1, .int .i32 c2] ms i34).1, .flt .f32 (nearT [.flt .f32 a, .flt .f32 b, .flt .f32 c] g [.int .i32 c0, .int .i32 c1, .int .i32 c2] ms i34).2, .int .i64 (ms.length : Int)])
  refine run_mc (φ := φ0) (pm := pmR 3 [(.len (n1 1), nI 13)] 0) 20 (ws := [⟨l, 0, [nF 0, n1 1], false⟩, ⟨p15, 0, [n2 6, n2 7, n2 8], false⟩, ⟨p19, 0, [nF 2, nF 3, nF 4], false⟩]) (env := [(0, .ptr 0 0), (8, .ptr 1 0), (4, .ptr 2 0), (2, nF 5), (12, nI 10), (10, nI 11), (11, nF 12)]) q35 (.cons (wR r34_0 q35) (.cons (wR r34_1 q35) (.cons (wR r34_2 q35) .nil))) (sepOk_ro rfl) (.cons (⟨_, _, (dE q35), (dE q35), slLen hS⟩) .nil) (eC q35 (.cons c34_0 (.cons c34_8 (.cons c34_4 (.cons c34_2 (.cons ci34 (.cons cv34_10 (.cons cv34_11 .nil)))))))) tb_ok ap_ok ?_
  refine all2 (by kernel_rfl) ?_ ?_
  ·
   intro vs ls H36 E36 st hE
   have f37 : (i34 : Int) < (ms.length : Int) := dt st 0
   have b38 := eo st hE 45 S
   have b39 := eo st hE 46 (.int .i64 (i34 : Int))
   have b40 := eo st hE 8 (.ptr p15 0)
   have b41 := eo st hE 0 (.ptr l 0)
   have b42 := eo st hE 12 (.int .i64 (i34 : Int))
   have b43 := eo st hE 4 (.ptr p19 0)
   have b44 := eo st hE 2 (.flt .f32 g)
   have b45 := eo st hE 10 (.int .i64 (nearT [.flt .f32 a, .flt .f32 b, .flt .f32 c] g [.int .i32 c0, .int .i32 c1, .int .i32 c2] ms i34).1)
   have b46 := eo st hE 11 (.flt .f32 (nearT [.flt .f32 a, .flt .f32 b, .flt .f32 c] g [.int .i32 c0, .int .i32 c1, .int .i32 c2] ms i34).2)
   have g47 : Grew Hi34 H36 := (gk st)
   have g48 : Grew H H36 := Grew.trans gt34 g47
   have r49 := g47.at r34_0
   have r50 := g47.at r34_1
   have r51 := g47.at r34_2
   clear st hE vs ls
   have hlt52 : i34 < ms.length := by omega
   obtain ⟨lS52, cap52, rest52, wr52, eS52, gB52⟩ := hS.isSl hlt52
   have gS52 := g48.at gB52
   have ne53 := apn gB52 op15
   have ne54 := apn gB52 op19
   obtain ⟨v52_0, v52_1, v52_2, v52_3, v52_4, v52_5, v52_6, v52_7, v52_8, hm52, ho52_3, ho52_4, ho52_5, ho52_6⟩ := partsMark (hr.get hlt52)
   have he52 : ms.getD i34 [] = [.int .i32 v52_0, .int .i32 v52_1, .int .i32 v52_2, .flt .f32 v52_3, .flt .f32 v52_4, .flt .f32 v52_5, .flt .f32 v52_6, .int .i64 v52_7, .int .i64 v52_8] := by rw [← hm52, List.getD_eq_getElem?_getD, List.getElem?_eq_getElem hlt52]; rfl
   have q55 := q35.app (.cons ⟨_, rfl⟩ (.cons ⟨_, rfl⟩ (.cons ⟨_, rfl⟩ (.cons ⟨_, rfl, ho52_3⟩ (.cons ⟨_, rfl, ho52_4⟩ (.cons ⟨_, rfl, ho52_5⟩ (.cons ⟨_, rfl, ho52_6⟩ (.cons ⟨_, rfl⟩ (.cons ⟨_, rfl⟩ (.cons ⟨_, rfl⟩ (.cons ⟨_, rfl, awayF_ok _ _⟩ .nil)))))))))) : KdsL [K2, K2, K2, KF, KF, KF, KF, KI, KI, .bool, KF] [.int .i32 v52_0, .int .i32 v52_1, .int .i32 v52_2, .flt .f32 v52_3, .flt .f32 v52_4, .flt .f32 v52_5, .flt .f32 v52_6, .int .i64 v52_7, .int .i64 v52_8, .bool (besB [.int .i32 v52_0, .int .i32 v52_1, .int .i32 v52_2] [.int .i32 c0, .int .i32 c1, .int .i32 c2]), .flt .f32 (awayF [.flt .f32 a, .flt .f32 b, .flt .f32 c] [.int .i32 v52_0, .int .i32 v52_1, .int .i32 v52_2, .flt .f32 v52_3, .flt .f32 v52_4, .flt .f32 v52_5, .flt .f32 v52_6, .int .i64 v52_7, .int .i64 v52_8])])
   refine run_mc (φ := φ0) (pm := pmR 4 [(.ia 9 (n1 1) (nI 10), .ptr 3 0), (.call 111 [.agg [n2 14, n2 15, n2 16], .agg [n2 6, n2 7, n2 8]], nB 23), (.call 84 [.ptr 3 0, .agg [nF 2, nF 3, nF 4]], nF 24)] 0) 20 (ws := [⟨l, 0, [nF 0, n1 1], false⟩, ⟨p15, 0, [n2 6, n2 7, n2 8], false⟩, ⟨p19, 0, [nF 2, nF 3, nF 4], false⟩, ⟨lS52, (i34 * 9), [n2 14, n2 15, n2 16, nF 17, nF 18, nF 19, nF 20, nI 21, nI 22], false⟩]) (env := [(45, n1 1), (46, nI 10), (8, .ptr 1 0), (0, .ptr 0 0), (12, nI 10), (4, .ptr 2 0), (2, nF 5), (10, nI 11), (11, nF 12)]) q55 (.cons (wR r49 q55) (.cons (wR r50 q55) (.cons (wR r51 q55) (.cons (win_elem hr gS52 hlt52 rfl (by rw [hm52]; exact (dL q55))) .nil)))) (sepOk_ro rfl) (.cons (rule_iaS (k := i34) (dE q55) eS52 (dE q55) hlt52 rfl) (.cons (rule_call (args := [.agg [.int .i32 v52_0, .int .i32 v52_1, .int .i32 v52_2], .agg [.int .i32 c0, .int .i32 c1, .int .i32 c2]]) (dL q55) (dE q55) (fun H9 hk => k_l05Beside [.int .i32 v52_0, .int .i32 v52_1, .int .i32 v52_2] [.int .i32 c0, .int .i32 c1, .int .i32 c2] (.cons ⟨_, rfl⟩ (.cons ⟨_, rfl⟩ (.cons ⟨_, rfl⟩ .nil))) (.cons ⟨_, rfl⟩ (.cons ⟨_, rfl⟩ (.cons ⟨_, rfl⟩ .nil))) H9)) (.cons (rule_call (args := [.ptr lS52 ((i34 * 9) + 0), .agg [.flt .f32 a, .flt .f32 b, .flt .f32 c]]) (r := .flt .f32 (awayF [.flt .f32 a, .flt .f32 b, .flt .f32 c] [.int .i32 v52_0, .int .i32 v52_1, .int .i32 v52_2, .flt .f32 v52_3, .flt .f32 v52_4, .flt .f32 v52_5, .flt .f32 v52_6, .int .i64 v52_7, .int .i64 v52_8])) (dL q55) (dE q55) (fun H9 hk => (by obtain ⟨pre, post, g1, g2⟩ := flat_split hr.len hlt52 rest52; exact k_l05Away [.int .i32 v52_0, .int .i32 v52_1, .int .i32 v52_2, .flt .f32 v52_3, .flt .f32 v52_4, .flt .f32 v52_5, .flt .f32 v52_6, .int .i64 v52_7, .int .i64 v52_8] [.flt .f32 a, .flt .f32 b, .flt .f32 c] (.cons ⟨_, rfl⟩ (.cons ⟨_, rfl⟩ (.cons ⟨_, rfl⟩ (.cons ⟨_, rfl, ho52_3⟩ (.cons ⟨_, rfl, ho52_4⟩ (.cons ⟨_, rfl, ho52_5⟩ (.cons ⟨_, rfl, ho52_6⟩ (.cons ⟨_, rfl⟩ (.cons ⟨_, rfl⟩ .nil))))))))) (.cons ⟨_, rfl, ha⟩ (.cons ⟨_, rfl, hb⟩ (.cons ⟨_, rfl, hc⟩ .nil))) (by rw [((hk.grew (Nat.le_refl _)).at gS52), g1, hm52]) g2))) .nil))) (eC q55 (.cons b38 (.cons b39 (.cons b40 (.cons b41 (.cons b42 (.cons b43 (.cons b44 (.cons b45 (.cons b46 .nil)))))))))) tb_ok ap_ok ?_
   refine all5 (by kernel_rfl) ?_ ?_ ?_ ?_ ?_
   ·
    intro vs ls H56 E56 st hE
    have f57 : (besB [.int .i32 v52_0, .int .i32 v52_1, .int .i32 v52_2] [.int .i32 c0, .int .i32 c1, .int .i32 c2]) = false := bf st 0
    obtain ⟨w58, hw58⟩ : ∃ z, z = (IntKind.wrap .i64 ((i34 : Int) + 1)) := ⟨_, rfl⟩
    have b59 : E56 12 = .int .i64 w58 := by rw [hw58]; exact eo st hE 12 _
    have b60 := eo st hE 0 (.ptr l 0)
    have b61 := eo st hE 8 (.ptr p15 0)
    have b62 := eo st hE 4 (.ptr p19 0)
    have b63 := eo st hE 2 (.flt .f32 g)
    have b64 := eo st hE 10 (.int .i64 (nearT [.flt .f32 a, .flt .f32 b, .flt .f32 c] g [.int .i32 c0, .int .i32 c1, .int .i32 c2] ms i34).1)
    have b65 := eo st hE 11 (.flt .f32 (nearT [.flt .f32 a, .flt .f32 b, .flt .f32 c] g [.int .i32 c0, .int .i32 c1, .int .i32 c2] ms i34).2)
    have g66 : Grew H36 H56 := (gk st)
    have g67 : Grew H H56 := Grew.trans g48 g66
    have r68 := g66.at r49
    have r69 := g66.at r50
    have r70 := g66.at r51
    clear st hE vs ls
    have hz9 : z34 - 1 < z34 := by omega
    have hy9 : z34 - 1 + (i34 + 1) = ms.length := by omega
    have hi9 : E56 12 = .int .i64 ((i34 + 1 : Nat) : Int) := by rw [b59, hw58, wrap64 (by omega)]
    have hn9 : nearT [.flt .f32 a, .flt .f32 b, .flt .f32 c] g [.int .i32 c0, .int .i32 c1, .int .i32 c2] ms (i34 + 1) = (nearT [.flt .f32 a, .flt .f32 b, .flt .f32 c] g [.int .i32 c0, .int .i32 c1, .int .i32 c2] ms i34) := by
     show nearS _ _ _ _ _ _ = _; unfold nearS; rw [he52, show List.take 3 ([.int .i32 v52_0, .int .i32 v52_1, .int .i32 v52_2, .flt .f32 v52_3, .flt .f32 v52_4, .flt .f32 v52_5, .flt .f32 v52_6, .int .i64 v52_7, .int .i64 v52_8] : List AV) = [.int .i32 v52_0, .int .i32 v52_1, .int .i32 v52_2] from rfl, if_neg (by rw [f57]; decide)]
    exact res_norm (by kernel_rfl) ⟨z34 - 1, hz9, i34 + 1, hy9, b60, b61, b62, b63, hi9, (by rw [hn9]; exact b64), (by rw [hn9]; exact b65), g67, r68, r69, r70⟩
   ·
    intro vs ls H72 E72 st hE
    have f73 : (nearT [.flt .f32 a, .flt .f32 b, .flt .f32 c] g [.int .i32 c0, .int .i32 c1, .int .i32 c2] ms i34).1 < 0 := dt st 0
    have f74 : (ford .f32 (awayF [.flt .f32 a, .flt .f32 b, .flt .f32 c] [.int .i32 v52_0, .int .i32 v52_1, .int .i32 v52_2, .flt .f32 v52_3, .flt .f32 v52_4, .flt .f32 v52_5, .flt .f32 v52_6, .int .i64 v52_7, .int .i64 v52_8]) g == some .lt || ford .f32 (awayF [.flt .f32 a, .flt .f32 b, .flt .f32 c] [.int .i32 v52_0, .int .i32 v52_1, .int .i32 v52_2, .flt .f32 v52_3, .flt .f32 v52_4, .flt .f32 v52_5, .flt .f32 v52_6, .int .i64 v52_7, .int .i64 v52_8]) g == some .eq) = true := bf st 1
    have f75 : (besB [.int .i32 v52_0, .int .i32 v52_1, .int .i32 v52_2] [.int .i32 c0, .int .i32 c1, .int .i32 c2]) = true := bf st 2
    obtain ⟨w76, hw76⟩ : ∃ z, z = (IntKind.wrap .i64 ((i34 : Int) + 1)) := ⟨_, rfl⟩
    have b77 : E72 12 = .int .i64 w76 := by rw [hw76]; exact eo st hE 12 _
    have b78 := eo st hE 0 (.ptr l 0)
    have b79 := eo st hE 8 (.ptr p15 0)
    have b80 := eo st hE 4 (.ptr p19 0)
    have b81 := eo st hE 2 (.flt .f32 g)
    have b82 := eo st hE 10 (.int .i64 (i34 : Int))
    have b83 := eo st hE 11 (.flt .f32 (awayF [.flt .f32 a, .flt .f32 b, .flt .f32 c] [.int .i32 v52_0, .int .i32 v52_1, .int .i32 v52_2, .flt .f32 v52_3, .flt .f32 v52_4, .flt .f32 v52_5, .flt .f32 v52_6, .int .i64 v52_7, .int .i64 v52_8]))
    have g84 : Grew H36 H72 := (gk st)
    have g85 : Grew H H72 := Grew.trans g48 g84
    have r86 := g84.at r49
    have r87 := g84.at r50
    have r88 := g84.at r51
    clear st hE vs ls
    have hz9 : z34 - 1 < z34 := by omega
    have hy9 : z34 - 1 + (i34 + 1) = ms.length := by omega
    have hi9 : E72 12 = .int .i64 ((i34 + 1 : Nat) : Int) := by rw [b77, hw76, wrap64 (by omega)]
    have hn9 : nearT [.flt .f32 a, .flt .f32 b, .flt .f32 c] g [.int .i32 c0, .int .i32 c1, .int .i32 c2] ms (i34 + 1) = ((i34 : Int), (awayF [.flt .f32 a, .flt .f32 b, .flt .f32 c] [.int .i32 v52_0, .int .i32 v52_1, .int .i32 v52_2, .flt .f32 v52_3, .flt .f32 v52_4, .flt .f32 v52_5, .flt .f32 v52_6, .int .i64 v52_7, .int .i64 v52_8])) := by
     show nearS _ _ _ _ _ _ = _; unfold nearS; rw [he52, show List.take 3 ([.int .i32 v52_0, .int .i32 v52_1, .int .i32 v52_2, .flt .f32 v52_3, .flt .f32 v52_4, .flt .f32 v52_5, .flt .f32 v52_6, .int .i64 v52_7, .int .i64 v52_8] : List AV) = [.int .i32 v52_0, .int .i32 v52_1, .int .i32 v52_2] from rfl, if_pos f75, if_pos (show leq32 (awayF [.flt .f32 a, .flt .f32 b, .flt .f32 c] [.int .i32 v52_0, .int .i32 v52_1, .int .i32 v52_2, .flt .f32 v52_3, .flt .f32 v52_4, .flt .f32 v52_5, .flt .f32 v52_6, .int .i64 v52_7, .int .i64 v52_8]) g = true from f74), if_pos f73]
    exact res_norm (by kernel_rfl) ⟨z34 - 1, hz9, i34 + 1, hy9, b78, b79, b80, b81, hi9, (by rw [hn9]; exact b82), (by rw [hn9]; exact b83), g85, r86, r87, r88⟩
   ·
    intro vs ls H90 E90 st hE
    have f91 : (ford .f32 (awayF [.flt .f32 a, .flt .f32 b, .flt .f32 c] [.int .i32 v52_0, .int .i32 v52_1, .int .i32 v52_2, .flt .f32 v52_3, .flt .f32 v52_4, .flt .f32 v52_5, .flt .f32 v52_6, .int .i64 v52_7, .int .i64 v52_8]) (nearT [.flt .f32 a, .flt .f32 b, .flt .f32 c] g [.int .i32 c0, .int .i32 c1, .int .i32 c2] ms i34).2 == some .lt) = true := bf st 0
    have f92 : ¬ ((nearT [.flt .f32 a, .flt .f32 b, .flt .f32 c] g [.int .i32 c0, .int .i32 c1, .int .i32 c2] ms i34).1 < 0) := df st 1
    have f93 : (ford .f32 (awayF [.flt .f32 a, .flt .f32 b, .flt .f32 c] [.int .i32 v52_0, .int .i32 v52_1, .int .i32 v52_2, .flt .f32 v52_3, .flt .f32 v52_4, .flt .f32 v52_5, .flt .f32 v52_6, .int .i64 v52_7, .int .i64 v52_8]) g == some .lt || ford .f32 (awayF [.flt .f32 a, .flt .f32 b, .flt .f32 c] [.int .i32 v52_0, .int .i32 v52_1, .int .i32 v52_2, .flt .f32 v52_3, .flt .f32 v52_4, .flt .f32 v52_5, .flt .f32 v52_6, .int .i64 v52_7, .int .i64 v52_8]) g == some .eq) = true := bf st 2
    have f94 : (besB [.int .i32 v52_0, .int .i32 v52_1, .int .i32 v52_2] [.int .i32 c0, .int .i32 c1, .int .i32 c2]) = true := bf st 3
    obtain ⟨w95, hw95⟩ : ∃ z, z = (IntKind.wrap .i64 ((i34 : Int) + 1)) := ⟨_, rfl⟩
    have b96 : E90 12 = .int .i64 w95 := by rw [hw95]; exact eo st hE 12 _
    have b97 := eo st hE 0 (.ptr l 0)
    have b98 := eo st hE 8 (.ptr p15 0)
    have b99 := eo st hE 4 (.ptr p19 0)
    have b100 := eo st hE 2 (.flt .f32 g)
    have b101 := eo st hE 10 (.int .i64 (i34 : Int))
    have b102 := eo st hE 11 (.flt .f32 (awayF [.flt .f32 a, .flt .f32 b, .flt .f32 c] [.int .i32 v52_0, .int .i32 v52_1, .int .i32 v52_2, .flt .f32 v52_3, .flt .f32 v52_4, .flt .f32 v52_5, .flt .f32 v52_6, .int .i64 v52_7, .int .i64 v52_8]))
    have g103 : Grew H36 H90 := (gk st)
    have g104 : Grew H H90 := Grew.trans g48 g103
    have r105 := g103.at r49
    have r106 := g103.at r50
    have r107 := g103.at r51
    clear st hE vs ls
    have hz9 : z34 - 1 < z34 := by omega
    have hy9 : z34 - 1 + (i34 + 1) = ms.length := by omega
    have hi9 : E90 12 = .int .i64 ((i34 + 1 : Nat) : Int) := by rw [b96, hw95, wrap64 (by omega)]
    have hn9 : nearT [.flt .f32 a, .flt .f32 b, .flt .f32 c] g [.int .i32 c0, .int .i32 c1, .int .i32 c2] ms (i34 + 1) = ((i34 : Int), (awayF [.flt .f32 a, .flt .f32 b, .flt .f32 c] [.int .i32 v52_0, .int .i32 v52_1, .int .i32 v52_2, .flt .f32 v52_3, .flt .f32 v52_4, .flt .f32 v52_5, .flt .f32 v52_6, .int .i64 v52_7, .int .i64 v52_8])) := by
     show nearS _ _ _ _ _ _ = _; unfold nearS; rw [he52, show List.take 3 ([.int .i32 v52_0, .int .i32 v52_1, .int .i32 v52_2, .flt .f32 v52_3, .flt .f32 v52_4, .flt .f32 v52_5, .flt .f32 v52_6, .int .i64 v52_7, .int .i64 v52_8] : List AV) = [.int .i32 v52_0, .int .i32 v52_1, .int .i32 v52_2] from rfl, if_pos f94, if_pos (show leq32 (awayF [.flt .f32 a, .flt .f32 b, .flt .f32 c] [.int .i32 v52_0, .int .i32 v52_1, .int .i32 v52_2, .flt .f32 v52_3, .flt .f32 v52_4, .flt .f32 v52_5, .flt .f32 v52_6, .int .i64 v52_7, .int .i64 v52_8]) g = true from f93), if_neg f92, if_pos f91]
    exact res_norm (by kernel_rfl) ⟨z34 - 1, hz9, i34 + 1, hy9, b97, b98, b99, b100, hi9, (by rw [hn9]; exact b101), (by rw [hn9]; exact b102), g104, r105, r106, r107⟩
   ·
    intro vs ls H109 E109 st hE
    have f110 : (ford .f32 (awayF [.flt .f32 a, .flt .f32 b, .flt .f32 c] [.int .i32 v52_0, .int .i32 v52_1, .int .i32 v52_2, .flt .f32 v52_3, .flt .f32 v52_4, .flt .f32 v52_5, .flt .f32 v52_6, .int .i64 v52_7, .int .i64 v52_8]) (nearT [.flt .f32 a, .flt .f32 b, .flt .f32 c] g [.int .i32 c0, .int .i32 c1, .int .i32 c2] ms i34).2 == some .lt) = false := bf st 0
    have f111 : ¬ ((nearT [.flt .f32 a, .flt .f32 b, .flt .f32 c] g [.int .i32 c0, .int .i32 c1, .int .i32 c2] ms i34).1 < 0) := df st 1
    have f112 : (ford .f32 (awayF [.flt .f32 a, .flt .f32 b, .flt .f32 c] [.int .i32 v52_0, .int .i32 v52_1, .int .i32 v52_2, .flt .f32 v52_3, .flt .f32 v52_4, .flt .f32 v52_5, .flt .f32 v52_6, .int .i64 v52_7, .int .i64 v52_8]) g == some .lt || ford .f32 (awayF [.flt .f32 a, .flt .f32 b, .flt .f32 c] [.int .i32 v52_0, .int .i32 v52_1, .int .i32 v52_2, .flt .f32 v52_3, .flt .f32 v52_4, .flt .f32 v52_5, .flt .f32 v52_6, .int .i64 v52_7, .int .i64 v52_8]) g == some .eq) = true := bf st 2
    have f113 : (besB [.int .i32 v52_0, .int .i32 v52_1, .int .i32 v52_2] [.int .i32 c0, .int .i32 c1, .int .i32 c2]) = true := bf st 3
    obtain ⟨w114, hw114⟩ : ∃ z, z = (IntKind.wrap .i64 ((i34 : Int) + 1)) := ⟨_, rfl⟩
    have b115 : E109 12 = .int .i64 w114 := by rw [hw114]; exact eo st hE 12 _
    have b116 := eo st hE 0 (.ptr l 0)
    have b117 := eo st hE 8 (.ptr p15 0)
    have b118 := eo st hE 4 (.ptr p19 0)
    have b119 := eo st hE 2 (.flt .f32 g)
    have b120 := eo st hE 10 (.int .i64 (nearT [.flt .f32 a, .flt .f32 b, .flt .f32 c] g [.int .i32 c0, .int .i32 c1, .int .i32 c2] ms i34).1)
    have b121 := eo st hE 11 (.flt .f32 (nearT [.flt .f32 a, .flt .f32 b, .flt .f32 c] g [.int .i32 c0, .int .i32 c1, .int .i32 c2] ms i34).2)
    have g122 : Grew H36 H109 := (gk st)
    have g123 : Grew H H109 := Grew.trans g48 g122
    have r124 := g122.at r49
    have r125 := g122.at r50
    have r126 := g122.at r51
    clear st hE vs ls
    have hz9 : z34 - 1 < z34 := by omega
    have hy9 : z34 - 1 + (i34 + 1) = ms.length := by omega
    have hi9 : E109 12 = .int .i64 ((i34 + 1 : Nat) : Int) := by rw [b115, hw114, wrap64 (by omega)]
    have hn9 : nearT [.flt .f32 a, .flt .f32 b, .flt .f32 c] g [.int .i32 c0, .int .i32 c1, .int .i32 c2] ms (i34 + 1) = (nearT [.flt .f32 a, .flt .f32 b, .flt .f32 c] g [.int .i32 c0, .int .i32 c1, .int .i32 c2] ms i34) := by
     show nearS _ _ _ _ _ _ = _; unfold nearS; rw [he52, show List.take 3 ([.int .i32 v52_0, .int .i32 v52_1, .int .i32 v52_2, .flt .f32 v52_3, .flt .f32 v52_4, .flt .f32 v52_5, .flt .f32 v52_6, .int .i64 v52_7, .int .i64 v52_8] : List AV) = [.int .i32 v52_0, .int .i32 v52_1, .int .i32 v52_2] from rfl, if_pos f113, if_pos (show leq32 (awayF [.flt .f32 a, .flt .f32 b, .flt .f32 c] [.int .i32 v52_0, .int .i32 v52_1, .int .i32 v52_2, .flt .f32 v52_3, .flt .f32 v52_4, .flt .f32 v52_5, .flt .f32 v52_6, .int .i64 v52_7, .int .i64 v52_8]) g = true from f112), if_neg f111, if_neg (by rw [f110]; decide)]
    exact res_norm (by kernel_rfl) ⟨z34 - 1, hz9, i34 + 1, hy9, b116, b117, b118, b119, hi9, (by rw [hn9]; exact b120), (by rw [hn9]; exact b121), g123, r124, r125, r126⟩
   ·
    intro vs ls H128 E128 st hE
    have f129 : (ford .f32 (awayF [.flt .f32 a, .flt .f32 b, .flt .f32 c] [.int .i32 v52_0, .int .i32 v52_1, .int .i32 v52_2, .flt .f32 v52_3, .flt .f32 v52_4, .flt .f32 v52_5, .flt .f32 v52_6, .int .i64 v52_7, .int .i64 v52_8]) g == some .lt || ford .f32 (awayF [.flt .f32 a, .flt .f32 b, .flt .f32 c] [.int .i32 v52_0, .int .i32 v52_1, .int .i32 v52_2, .flt .f32 v52_3, .flt .f32 v52_4, .flt .f32 v52_5, .flt .f32 v52_6, .int .i64 v52_7, .int .i64 v52_8]) g == some .eq) = false := bf st 0
    have f130 : (besB [.int .i32 v52_0, .int .i32 v52_1, .int .i32 v52_2] [.int .i32 c0, .int .i32 c1, .int .i32 c2]) = true := bf st 1
    obtain ⟨w131, hw131⟩ : ∃ z, z = (IntKind.wrap .i64 ((i34 : Int) + 1)) := ⟨_, rfl⟩
    have b132 : E128 12 = .int .i64 w131 := by rw [hw131]; exact eo st hE 12 _
    have b133 := eo st hE 0 (.ptr l 0)
    have b134 := eo st hE 8 (.ptr p15 0)
    have b135 := eo st hE 4 (.ptr p19 0)
    have b136 := eo st hE 2 (.flt .f32 g)
    have b137 := eo st hE 10 (.int .i64 (nearT [.flt .f32 a, .flt .f32 b, .flt .f32 c] g [.int .i32 c0, .int .i32 c1, .int .i32 c2] ms i34).1)
    have b138 := eo st hE 11 (.flt .f32 (nearT [.flt .f32 a, .flt .f32 b, .flt .f32 c] g [.int .i32 c0, .int .i32 c1, .int .i32 c2] ms i34).2)
    have g139 : Grew H36 H128 := (gk st)
    have g140 : Grew H H128 := Grew.trans g48 g139
    have r141 := g139.at r49
    have r142 := g139.at r50
    have r143 := g139.at r51
    clear st hE vs ls
    have hz9 : z34 - 1 < z34 := by omega
    have hy9 : z34 - 1 + (i34 + 1) = ms.length := by omega
    have hi9 : E128 12 = .int .i64 ((i34 + 1 : Nat) : Int) := by rw [b132, hw131, wrap64 (by omega)]
    have hn9 : nearT [.flt .f32 a, .flt .f32 b, .flt .f32 c] g [.int .i32 c0, .int .i32 c1, .int .i32 c2] ms (i34 + 1) = (nearT [.flt .f32 a, .flt .f32 b, .flt .f32 c] g [.int .i32 c0, .int .i32 c1, .int .i32 c2] ms i34) := by
     show nearS _ _ _ _ _ _ = _; unfold nearS; rw [he52, show List.take 3 ([.int .i32 v52_0, .int .i32 v52_1, .int .i32 v52_2, .flt .f32 v52_3, .flt .f32 v52_4, .flt .f32 v52_5, .flt .f32 v52_6, .int .i64 v52_7, .int .i64 v52_8] : List AV) = [.int .i32 v52_0, .int .i32 v52_1, .int .i32 v52_2] from rfl, if_pos f130, if_neg (by unfold leq32; rw [f129]; decide)]
    exact res_norm (by kernel_rfl) ⟨z34 - 1, hz9, i34 + 1, hy9, b133, b134, b135, b136, hi9, (by rw [hn9]; exact b137), (by rw [hn9]; exact b138), g140, r141, r142, r143⟩
  ·
   intro vs ls H145 E145 st hE
   have f146 : ¬ ((i34 : Int) < (ms.length : Int)) := df st 0
   have b147 := eo st hE 12 (.int .i64 (i34 : Int))
   have b148 := eo st hE 0 (.ptr l 0)
   have b149 := eo st hE 34 (.ptr l 0)
   have b150 := eo st hE 35 (.ptr l 0)
   have b151 := eo st hE 36 (.ptr l 1)
   have b152 := eo st hE 37 S
   have b153 := eo st hE 33 (.int .i64 (i34 : Int))
   have b154 := eo st hE 38 (.int .i64 (ms.length : Int))
   obtain ⟨w155, hw155⟩ : ∃ z, z = (decide ((i34 : Int) < (ms.length : Int))) := ⟨_, rfl⟩
   have b156 : E145 39 = .bool w155 := by rw [hw155]; exact eo st hE 39 _
   have b157 := eo st hE 8 (.ptr p15 0)
   have b158 := eo st hE 4 (.ptr p19 0)
   have b159 := eo st hE 2 (.flt .f32 g)
   have b160 := eo st hE 10 (.int .i64 (nearT [.flt .f32 a, .flt .f32 b, .flt .f32 c] g [.int .i32 c0, .int .i32 c1, .int .i32 c2] ms i34).1)
   have b161 := eo st hE 11 (.flt .f32 (nearT [.flt .f32 a, .flt .f32 b, .flt .f32 c] g [.int .i32 c0, .int .i32 c1, .int .i32 c2] ms i34).2)
   have g162 : Grew Hi34 H145 := (gk st)
   have g163 : Grew H H145 := Grew.trans gt34 g162
   have r164 := g162.at r34_0
   have r165 := g162.at r34_1
   have r166 := g162.at r34_2
   clear st hE vs ls
   refine res_exit (id := 0) (by kernel_rfl) ?_
   have q167 := q35.app (.cons ⟨_, rfl⟩ .nil : KdsL [.bool] [.bool w155])
   refine run_mc (φ := φ0) (pm := pmR 3 [] 0) 20 (ws := [⟨l, 0, [nF 0, n1 1], false⟩, ⟨p15, 0, [n2 6, n2 7, n2 8], false⟩, ⟨p19, 0, [nF 2, nF 3, nF 4], false⟩]) (env := [(12, nI 10), (0, .ptr 0 0), (34, .ptr 0 0), (35, .ptr 0 0), (36, .ptr 0 1), (37, n1 1), (33, nI 10), (38, nI 13), (39, nB 14), (8, .ptr 1 0), (4, .ptr 2 0), (2, nF 5), (10, nI 11), (11, nF 12)]) q167 (.cons (wR r164 q167) (.cons (wR r165 q167) (.cons (wR r166 q167) .nil))) (sepOk_ro rfl) .nil (eC q167 (.cons b147 (.cons b148 (.cons b149 (.cons b150 (.cons b151 (.cons b152 (.cons b153 (.cons b154 (.cons b156 (.cons b157 (.cons b158 (.cons b159 (.cons b160 (.cons b161 .nil))))))))))))))) tb_ok ap_ok ?_
   refine all1 (by kernel_rfl) ?_
   intro vs ls H168 E168 st hE
   refine res_ex (by kernel_rfl) (end_flat st.inn hE (.inr rfl) (a := .tuple [.int .i64 (nearT [.flt .f32 a, .flt .f32 b, .flt .f32 c] g [.int .i32 c0, .int .i32 c1, .int .i32 c2] ms i34).1, .int .i64 0]) (by kernel_rfl) (Grew.trans g163 (gk st)) rfl ⟨?_, rfl⟩)
   have hI : nearI x ms a b c g = ((nearT [.flt .f32 a, .flt .f32 b, .flt .f32 c] g [.int .i32 c0, .int .i32 c1, .int .i32 c2] ms ms.length).1, (0 : Int)) := by
    unfold nearI; rw [if_pos (show leq32 (some 0) g = true from f13), hce]; show (if d = 0 then _ else _) = _; rw [if_pos f12]
   rw [show ms.length = i34 by omega] at hI
   rw [hI]
end Go.Proofs.Ytgjhjemmddojfaa
