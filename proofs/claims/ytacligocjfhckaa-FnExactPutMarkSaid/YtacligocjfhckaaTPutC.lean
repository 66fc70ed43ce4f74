/- Contracts: PutMark, by both. -/
import Derived.Test.YtacligocjfhckaaTPut
import Derived.Test.YtacligocjfhckaaTMapArg
set_option linter.unusedVariables false
set_option linter.unusedSimpArgs false
namespace Go.Proofs.Ytacligocjfhckaa
open Go.Ab
set_option maxRecDepth 100000
set_option maxHeartbeats 1000000
attribute [local irreducible] Res
theorem okMap_len {x : Option Nat} {ms : List (List AV)} (h : okMap x ms = true) : ms.length ≤ 200 := by
 simp only [okMap, Bool.and_eq_true, decide_eq_true_eq] at h
 exact h.2.1
theorem okMap_markX {x : Option Nat} {ms : List (List AV)} (hr : Recs KM ms) (h : okMap x ms = true) : ∀ m ∈ ms, markX m = true := by
 intro m hm
 obtain ⟨i, hi, he⟩ := List.getElem_of_mem hm
 have hk : okAt ms i = true := by
  cases hb : okAt ms i with
  | true => rfl
  | false => rw [okMap_at hi hb] at h; cases h
 have hm2 : markB (ms.getD i []) = true := by
  unfold okAt at hk; rw [Bool.and_eq_true] at hk; exact hk.1
 have hg : ms.getD i [] = m := by rw [← he]; simp [List.getD_eq_getElem?_getD, hi]
 rw [hg] at hm2
 obtain ⟨v0, v1, v2, v3, v4, v5, v6, v7, v8, rfl, o3, o4, o5, o6⟩ := partsMark (hr m hm)
 have hd : KdsL KM [.int .i32 v0, .int .i32 v1, .int .i32 v2, .flt .f32 v3, .flt .f32 v4, .flt .f32 v5, .flt .f32 v6, .int .i64 v7, .int .i64 v8] := .cons ⟨_, rfl⟩ (.cons ⟨_, rfl⟩ (.cons ⟨_, rfl⟩ (.cons ⟨_, rfl, o3⟩ (.cons ⟨_, rfl, o4⟩ (.cons ⟨_, rfl, o5⟩ (.cons ⟨_, rfl, o6⟩ (.cons ⟨_, rfl⟩ (.cons ⟨_, rfl⟩ .nil))))))))
 obtain ⟨z, hz⟩ := agg_val (μ := fun _ => none) hd (by decide)
 have e := uniqB h_impl_validMark (by kernel_rfl) ⟨[z], .cons hz RL.nil⟩ (k_validMark _ hd) (k_validMarkX v0 v1 v2 v3 v4 v5 v6 v7 v8 o3 o4 o5 o6)
 rw [← e]; exact hm2
theorem betW_eq (v0 v1 v2 : Int) (v3 v4 v5 v6 : Option Nat) (v7 v8 : Int) (o3 : fOk .f32 v3) (o4 : fOk .f32 v4) (o5 : fOk .f32 v5) (o6 : fOk .f32 v6) (u0 u1 u2 : Int) (u3 u4 u5 u6 : Option Nat) (u7 u8 : Int) (p3 : fOk .f32 u3) (p4 : fOk .f32 u4) (p5 : fOk .f32 u5) (p6 : fOk .f32 u6) (h : markX [.int .i32 v0, .int .i32 v1, .int .i32 v2, .flt .f32 v3, .flt .f32 v4, .flt .f32 v5, .flt .f32 v6, .int .i64 v7, .int .i64 v8] = true) (h' : markX [.int .i32 u0, .int .i32 u1, .int .i32 u2, .flt .f32 u3, .flt .f32 u4, .flt .f32 u5, .flt .f32 u6, .int .i64 u7, .int .i64 u8] = true) : betW atP [.int .i32 v0, .int .i32 v1, .int .i32 v2, .flt .f32 v3, .flt .f32 v4, .flt .f32 v5, .flt .f32 v6, .int .i64 v7, .int .i64 v8] [.int .i32 u0, .int .i32 u1, .int .i32 u2, .flt .f32 u3, .flt .f32 u4, .flt .f32 u5, .flt .f32 u6, .int .i64 u7, .int .i64 u8] = betX [.int .i32 v0, .int .i32 v1, .int .i32 v2, .flt .f32 v3, .flt .f32 v4, .flt .f32 v5, .flt .f32 v6, .int .i64 v7, .int .i64 v8] [.int .i32 u0, .int .i32 u1, .int .i32 u2, .flt .f32 u3, .flt .f32 u4, .flt .f32 u5, .flt .f32 u6, .int .i64 u7, .int .i64 u8] := by
 obtain ⟨a3, a4, a5⟩ := markX_fin h o3 o4 o5
 obtain ⟨b3, b4, b5⟩ := markX_fin h' p3 p4 p5
 unfold betX
 rw [h, h']
 simp only [betW, at_eq o3 p3 a3 b3, at_eq o4 p4 a4 b4, at_eq o5 p5 a5 b5, Bool.true_and]
open Classical in
noncomputable def putV (x : Option Nat) (ms : List (List AV)) (m : List AV) : Option Nat × List (List AV) × Int :=
 if okMap x ms = true then (if markX m = true then (if putOk ms m = true then (x, putL ms m, 0) else (some 0, [], 3)) else (some 0, [], 1)) else (some 0, [], 1)
theorem putOk_len {ms : List (List AV)} {m : List AV} (h : ms.length ≤ 200) : putOk ms m = decide (((putL ms m).length : Int) ≤ 200) := by
 unfold putOk
 rw [putL_len]
 cases fndM ms m with
 | true =>
  rw [if_pos rfl]
  exact (decide_eq_true (by omega)).symm
 | false =>
  rw [if_neg (by decide)]
  by_cases h2 : (ms.length : Int) = 200
  ·
   rw [decide_eq_true h2, decide_eq_false (by omega)]; rfl
  ·
   rw [decide_eq_false h2, decide_eq_true (by omega)]; rfl
theorem k_ownMap (H : AHeap) (x : Option Nat) (hx : fOk .f32 x) (ms : List (List AV)) (hr : Recs KM ms) (S : AV) (hS : SlL H 9 ms S) (mxms : ms.length ≤ 1048576) : ACalls Try.prog 36 [.agg [.flt .f32 x, S]] H fun r H' => Grew H H' ∧ ∃ S', r = .agg [.flt .f32 x, S'] ∧ SlF H' 9 ms S' ∧ FreshS H.next S' := by
 refine res_start h_impl_ownMap (by simp) ?_
 have q1 : KdsL [KF, .one] [.flt .f32 x, S] := .cons ⟨_, rfl, hx⟩ (.cons (slOne hS) .nil)
 refine run_mc (φ := φ0) (pm := pmR 0 [] 0) 20 (ws := []) (env := [(0, .agg [nF 0, n1 1])]) q1 .nil (sepOk_ro rfl) .nil (eC q1 (.cons (t := 0) rfl .nil)) tb_ok ap_ok ?_
 refine all1 (by kernel_rfl) ?_
 intro vs ls H2 E2 st hE
 obtain ⟨p3, e4, r5, n6⟩ := ptr_of st.inn hE 2 1 (by kernel_rfl) (ds := [.flt .f32 (some 0), .nilslice]) (by kernel_rfl)
 have op3 : H.next ≤ p3 := Nat.le_trans (Nat.le_refl _) (n6 (Nat.le_of_ble_eq_true rfl))
 have b7 := eo st hE 6 S
 have b8 := eo st hE 4 (.flt .f32 x)
 have g9 : Grew H H2 := (gk st)
 have g10 : Grew H H2 := Grew.trans (Grew.refl _) g9
 clear st hE vs ls
 refine res_kid (free := false) (d := (some 7)) (f := 60) (args := [.tmp 6]) (by kernel_rfl) (R := fun z H' => Grew H2 H' ∧ SlF H' 9 ms z ∧ FreshS H2.next z) ?_ ?_
 ·
  show ACalls _ _ [E2 6] _ _
  rw [b7]
  exact k_CloneM H2 ms hr (S) (hS.grew g10) mxms
 rintro S11 H12 ⟨gS11, sS11, fS11⟩
 refine ⟨gS11, ?_⟩
 have ne13 : ApartL (S11) p3 := fS11.apartL (H2.lt_of_get r5)
 have fr14 : FreshS H.next (S11) := fS11.mono g10.next
 have g15 : Grew H H12 := Grew.trans g10 gS11
 have r16 := gS11.at r5
 have q17 := q1.app (.cons sS11.one .nil : KdsL [.one] [S11])
 refine run_mc (φ := φ0) (pm := pmR 0 [] 0) 20 (ws := [⟨p3, 0, [.lit (.flt .f32 (some 0)), .lit .nilslice], true⟩]) (env := [(6, n1 1), (4, nF 0), (2, .ptr 0 0), (7, n1 2)]) q17 (.cons (wO r16 q17) .nil) (sepD (by repeat (first | exact .nil | refine .cons (by first | assumption | exact Apart.symm (by assumption)) ?_))) .nil (eC q17 (.cons (put_ne rfl b7) (.cons (put_ne rfl b8) (.cons (put_ne rfl e4) (.cons put_same .nil))))) tb_ok ap_ok ?_
 refine all1 (by kernel_rfl) ?_
 intro vs ls H18 E18 st hE
 have gz : Grew H H18 := (grew_own g15 (st.inn.kept) ⟨op3, trivial⟩)
 exact res_ex (by kernel_rfl) (end_same st.inn hE (.inr rfl) (a := .agg [.flt .f32 x, S11]) (by kernel_rfl) gz.next ⟨gz, _, rfl, (sS11.keep st.inn.kept ⟨by assumption, trivial⟩), fr14⟩)
theorem k_impl_PutMark (H : AHeap) (x : Option Nat) (hx : fOk .f32 x) (ms : List (List AV)) (hr : Recs KM ms) (S : AV) (hS : SlL H 9 ms S) (mxms : ms.length ≤ 1048576) (v0 v1 v2 : Int) (v3 v4 v5 v6 : Option Nat) (v7 v8 : Int) (o3 : fOk .f32 v3) (o4 : fOk .f32 v4) (o5 : fOk .f32 v5) (o6 : fOk .f32 v6) : ACalls Try.prog 11 [.agg [.flt .f32 x, S], .agg [.int .i32 v0, .int .i32 v1, .int .i32 v2, .flt .f32 v3, .flt .f32 v4, .flt .f32 v5, .flt .f32 v6, .int .i64 v7, .int .i64 v8]] H fun r H' => Grew H H' ∧ ∃ S', r = .tuple [.agg [.flt .f32 (putV x ms [.int .i32 v0, .int .i32 v1, .int .i32 v2, .flt .f32 v3, .flt .f32 v4, .flt .f32 v5, .flt .f32 v6, .int .i64 v7, .int .i64 v8]).1, S'], .int .i64 (putV x ms [.int .i32 v0, .int .i32 v1, .int .i32 v2, .flt .f32 v3, .flt .f32 v4, .flt .f32 v5, .flt .f32 v6, .int .i64 v7, .int .i64 v8]).2.2] ∧ SlW H' 9 (putV x ms [.int .i32 v0, .int .i32 v1, .int .i32 v2, .flt .f32 v3, .flt .f32 v4, .flt .f32 v5, .flt .f32 v6, .int .i64 v7, .int .i64 v8]).2.1 S' ∧ FreshS H.next S' := by
 refine res_start h_impl_PutMark (by simp) ?_
 have q1 : KdsL [KF, .one, K2, K2, K2, KF, KF, KF, KF, KI, KI, .bool, .bool] [.flt .f32 x, S, .int .i32 v0, .int .i32 v1, .int .i32 v2, .flt .f32 v3, .flt .f32 v4, .flt .f32 v5, .flt .f32 v6, .int .i64 v7, .int .i64 v8, .bool (okMap x ms), .bool (markX [.int .i32 v0, .int .i32 v1, .int .i32 v2, .flt .f32 v3, .flt .f32 v4, .flt .f32 v5, .flt .f32 v6, .int .i64 v7, .int .i64 v8])] := .cons ⟨_, rfl, hx⟩ (.cons (slOne hS) (.cons ⟨_, rfl⟩ (.cons ⟨_, rfl⟩ (.cons ⟨_, rfl⟩ (.cons ⟨_, rfl, o3⟩ (.cons ⟨_, rfl, o4⟩ (.cons ⟨_, rfl, o5⟩ (.cons ⟨_, rfl, o6⟩ (.cons ⟨_, rfl⟩ (.cons ⟨_, rfl⟩ (.cons ⟨_, rfl⟩ (.cons ⟨_, rfl⟩ .nil))))))))))))
 refine run_mc (φ := φ0) (pm := pmR 0 [(.call 34 [.agg [nF 0, n1 1]], nB 11), (.call 35 [.agg [n2 2, n2 3, n2 4, nF 5, nF 6, nF 7, nF 8, nI 9, nI 10]], nB 12)] 0) 20 (ws := []) (env := [(0, .agg [nF 0, n1 1]), (1, .agg [n2 2, n2 3, n2 4, nF 5, nF 6, nF 7, nF 8, nI 9, nI 10])]) q1 .nil (sepOk_ro rfl) (.cons (rule_call (args := [.agg [.flt .f32 x, S]]) (dL q1) (dE q1) (fun H9 hk => k_impl_ValidMap H9 x hx S ms hr (hS.grew (Grew.trans (Grew.refl _) (hk.grew (Nat.le_refl _)))) (mx40 mxms))) (.cons (rule_call (args := [.agg [.int .i32 v0, .int .i32 v1, .int .i32 v2, .flt .f32 v3, .flt .f32 v4, .flt .f32 v5, .flt .f32 v6, .int .i64 v7, .int .i64 v8]]) (dL q1) (dE q1) (fun H9 hk => k_validMarkX v0 v1 v2 v3 v4 v5 v6 v7 v8 o3 o4 o5 o6 H9)) .nil)) (eC q1 (.cons (t := 0) rfl (.cons (t := 1) rfl .nil))) tb_ok ap_ok ?_
 refine all3 (by kernel_rfl) ?_ ?_ ?_
 ·
  intro vs ls H2 E2 st hE
  have f3 : (okMap x ms) = false := bf st 0
  have gz : Grew H H2 := (Grew.trans (Grew.refl _) (gk st))
  have hc : putV x ms [.int .i32 v0, .int .i32 v1, .int .i32 v2, .flt .f32 v3, .flt .f32 v4, .flt .f32 v5, .flt .f32 v6, .int .i64 v7, .int .i64 v8] = ((some 0), [], 1) := by
   unfold putV
   rw [if_neg (by rw [f3]; decide)]
  exact res_ex (by kernel_rfl) (end_same st.inn hE (.inr rfl) (a := .tuple [.agg [.flt .f32 (some 0), .nilslice], .int .i64 1]) (by kernel_rfl) gz.next (by rw [hc]; exact ⟨gz, _, rfl, (.nil rfl), FreshS.nil⟩))
 ·
  intro vs ls H4 E4 st hE
  have f5 : (markX [.int .i32 v0, .int .i32 v1, .int .i32 v2, .flt .f32 v3, .flt .f32 v4, .flt .f32 v5, .flt .f32 v6, .int .i64 v7, .int .i64 v8]) = false := bf st 0
  have f6 : (okMap x ms) = true := bf st 1
  have gz : Grew H H4 := (Grew.trans (Grew.refl _) (gk st))
  have hc : putV x ms [.int .i32 v0, .int .i32 v1, .int .i32 v2, .flt .f32 v3, .flt .f32 v4, .flt .f32 v5, .flt .f32 v6, .int .i64 v7, .int .i64 v8] = ((some 0), [], 1) := by
   unfold putV
   rw [if_pos f6, if_neg (by rw [f5]; decide)]
  exact res_ex (by kernel_rfl) (end_same st.inn hE (.inr rfl) (a := .tuple [.agg [.flt .f32 (some 0), .nilslice], .int .i64 1]) (by kernel_rfl) gz.next (by rw [hc]; exact ⟨gz, _, rfl, (.nil rfl), FreshS.nil⟩))
 ·
  intro vs ls H7 E7 st hE
  have f8 : (markX [.int .i32 v0, .int .i32 v1, .int .i32 v2, .flt .f32 v3, .flt .f32 v4, .flt .f32 v5, .flt .f32 v6, .int .i64 v7, .int .i64 v8]) = true := bf st 0
  have f9 : (okMap x ms) = true := bf st 1
  obtain ⟨p10, e11, r12, n13⟩ := ptr_of st.inn hE 3 1 (by kernel_rfl) (ds := [.int .i32 v0, .int .i32 v1, .int .i32 v2, .flt .f32 v3, .flt .f32 v4, .flt .f32 v5, .flt .f32 v6, .int .i64 v7, .int .i64 v8]) (by kernel_rfl)
  have op10 : H.next ≤ p10 := Nat.le_trans (Nat.le_refl _) (n13 (Nat.le_of_ble_eq_true rfl))
  obtain ⟨p14, e15, r16, n17⟩ := ptr_of st.inn hE 4 2 (by kernel_rfl) (ds := [.flt .f32 (some 0), .nilslice]) (by kernel_rfl)
  have op14 : H.next ≤ p14 := Nat.le_trans (Nat.le_refl _) (n17 (Nat.le_of_ble_eq_true rfl))
  have ne18 : Apart p10 p14 := ⟨ptr_ne st.inn hE 3 1 4 2 (by kernel_rfl) (by kernel_rfl) (cs := [.nd 2 (.int .i32), .nd 3 (.int .i32), .nd 4 (.int .i32), .nd 5 (.flt .f32), .nd 6 (.flt .f32), .nd 7 (.flt .f32), .nd 8 (.flt .f32), .nd 9 (.int .i64), .nd 10 (.int .i64)]) (by kernel_rfl) (by decide) e11 e15⟩
  have b19 := eo st hE 16 (.agg [.flt .f32 x, S])
  have g20 : Grew H H7 := (gk st)
  have g21 : Grew H H7 := Grew.trans (Grew.refl _) g20
  clear st hE vs ls
  refine res_call (d := (some 17)) (f := 36) (args := [.tmp 16]) (by kernel_rfl) (R := fun z H' => Grew H7 H' ∧ ∃ S', z = .agg [.flt .f32 x, S'] ∧ SlF H' 9 ms S' ∧ FreshS H7.next S') ?_ ?_
  ·
   show ACalls _ _ [E7 16] _ _
   rw [b19]
   exact k_ownMap H7 x hx ms hr (S) (hS.grew g21) mxms
  rintro z H22 ⟨gH22, S23, rfl, sS23, fS23⟩
  have ne24 : ApartL (S23) p10 := fS23.apartL (H7.lt_of_get r12)
  have ne25 : ApartL (S23) p14 := fS23.apartL (H7.lt_of_get r16)
  have fr26 : FreshS H.next (S23) := fS23.mono g21.next
  have g27 : Grew H H22 := Grew.trans g21 gH22
  have r28 := gH22.at r12
  have r29 := gH22.at r16
  have q30 := q1.app (.cons sS23.one .nil : KdsL [.one] [S23])
  refine run_mc (φ := φ0) (pm := pmR 2 [] 0) 20 (ws := [⟨p10, 0, [n2 2, n2 3, n2 4, nF 5, nF 6, nF 7, nF 8, nI 9, nI 10], false⟩, ⟨p14, 0, [.lit (.flt .f32 (some 0)), .lit .nilslice], false⟩]) (env := [(16, .agg [nF 0, n1 1]), (3, .ptr 0 0), (4, .ptr 1 0), (17, .agg [nF 0, n1 13])]) q30 (.cons (wR r28 q30) (.cons (wR r29 q30) .nil)) (sepOk_ro rfl) .nil (eC q30 (.cons (put_ne rfl b19) (.cons (put_ne rfl e11) (.cons (put_ne rfl e15) (.cons put_same .nil))))) tb_ok ap_ok ?_
  refine all1 (by kernel_rfl) ?_
  intro vs ls H31 E31 st hE
  obtain ⟨p32, e33, r34, n35⟩ := ptr_of st.inn hE 6 2 (by kernel_rfl) (ds := [.flt .f32 x, S23]) (by kernel_rfl)
  have op32 : H.next ≤ p32 := Nat.le_trans g27.next (n35 (Nat.le_of_ble_eq_true rfl))
  have ne36 := apn r28 (n35 (Nat.le_of_ble_eq_true rfl))
  have ne37 := apn r29 (n35 (Nat.le_of_ble_eq_true rfl))
  have ne38 : ApartL (S23) p32 := sS23.apart_new (n35 (Nat.le_of_ble_eq_true rfl))
  have b39 := eo st hE 18 (.agg [.int .i32 v0, .int .i32 v1, .int .i32 v2, .flt .f32 v3, .flt .f32 v4, .flt .f32 v5, .flt .f32 v6, .int .i64 v7, .int .i64 v8])
  have b40 := eo st hE 4 (.ptr p14 0)
  have g41 : Grew H22 H31 := (gk st)
  have g42 : Grew H H31 := Grew.trans g27 g41
  have r44 := g41.at r29
  have s45 := sS23.grew g41
  clear st hE vs ls
  refine res_call (d := some 19) (f := 37) (args := [.tmp 6, .tmp 18]) (by kernel_rfl) (R := fun z H' => Only2 (PT p32) (S23) H31 H' ∧ z = .bool (putOk ms [.int .i32 v0, .int .i32 v1, .int .i32 v2, .flt .f32 v3, .flt .f32 v4, .flt .f32 v5, .flt .f32 v6, .int .i64 v7, .int .i64 v8]) ∧ (putOk ms [.int .i32 v0, .int .i32 v1, .int .i32 v2, .flt .f32 v3, .flt .f32 v4, .flt .f32 v5, .flt .f32 v6, .int .i64 v7, .int .i64 v8] = true → ∃ S', H'.get p32 = some (.row [.flt .f32 x, S'] true) ∧ SlF H' 9 (putL ms [.int .i32 v0, .int .i32 v1, .int .i32 v2, .flt .f32 v3, .flt .f32 v4, .flt .f32 v5, .flt .f32 v6, .int .i64 v7, .int .i64 v8]) S' ∧ FromS H31.next (S23) S')) ?_ ?_
  ·
   show ACalls _ _ [E31 6, E31 18] _ _
   rw [e33, b39]
   exact k_put H31 x hx ms hr (S23) s45 (okMap_sort f9) mxms p32 r34 (by assumption) v0 v1 v2 v3 v4 v5 v6 v7 v8 o3 o4 o5 o6
  rintro z46 H46 ⟨o46, hz46, k46⟩
  have g47 : Grew H H46 := Only2.own g42 (FreshS.of_le op32) fr26 o46
  have r48 := o46.at r44 (ApartL.of (by first | assumption | exact Apart.symm (by assumption))) (by assumption)
  cases hb46 : putOk ms [.int .i32 v0, .int .i32 v1, .int .i32 v2, .flt .f32 v3, .flt .f32 v4, .flt .f32 v5, .flt .f32 v6, .int .i64 v7, .int .i64 v8] with
  | false =>
   rw [hb46] at hz46; subst hz46
   refine run_mc (φ := φ0) (pm := pmR 0 [] 0) 20 (ws := [⟨p14, 0, [.lit (.flt .f32 (some 0)), .lit .nilslice], true⟩]) (env := [(18, .agg [n2 2, n2 3, n2 4, nF 5, nF 6, nF 7, nF 8, nI 9, nI 10]), (4, .ptr 0 0), (19, .lit (.bool false))]) q30 (.cons (wO r48 q30) .nil) (sepD (by repeat (first | exact .nil | refine .cons (by first | assumption | exact Apart.symm (by assumption)) ?_))) .nil (eC q30 (.cons (put_ne rfl b39) (.cons (put_ne rfl b40) (.cons put_same .nil)))) tb_ok ap_ok ?_
   refine all1 (by kernel_rfl) ?_
   intro vs ls H50 E50 st hE
   have gz : Grew H H50 := (grew_own g47 (st.inn.kept) ⟨op14, trivial⟩)
   have hc : putV x ms [.int .i32 v0, .int .i32 v1, .int .i32 v2, .flt .f32 v3, .flt .f32 v4, .flt .f32 v5, .flt .f32 v6, .int .i64 v7, .int .i64 v8] = ((some 0), [], 3) := by
    unfold putV
    rw [if_pos f9, if_pos f8, if_neg (by rw [hb46]; decide)]
   exact res_ex (by kernel_rfl) (end_same st.inn hE (.inr rfl) (a := .tuple [.agg [.flt .f32 (some 0), .nilslice], .int .i64 3]) (by kernel_rfl) gz.next (by rw [hc]; exact ⟨gz, _, rfl, (.nil rfl), FreshS.nil⟩))
  | true =>
   rw [hb46] at hz46; subst hz46
   obtain ⟨S51, rS51, sS51, fS51⟩ := k46 hb46
   have fr52 : FreshS H.next S51 := fS51.fresh fr26 g42.next
   have ne53 : ApartL (S51) p14 := fS51.apartL (H31.lt_of_get r44) (by assumption)
   have ne54 : ApartL (S51) p32 := fS51.apartL (H31.lt_of_get r34) (by assumption)
   have q55 := q30.app (.cons sS51.one .nil : KdsL [.one] [S51])
   refine run_mc (φ := φ0) (pm := pmR 1 [] 0) 20 (ws := [⟨p32, 0, [nF 0, n1 14], false⟩, ⟨p14, 0, [.lit (.flt .f32 (some 0)), .lit .nilslice], true⟩]) (env := [(6, .ptr 0 0), (18, .agg [n2 2, n2 3, n2 4, nF 5, nF 6, nF 7, nF 8, nI 9, nI 10]), (4, .ptr 1 0), (19, .lit (.bool true))]) q55 (.cons (wR rS51 q55) (.cons (wO r48 q55) .nil)) (sepD (by repeat (first | exact .nil | refine .cons (by first | assumption | exact Apart.symm (by assumption)) ?_))) .nil (eC q55 (.cons (put_ne rfl e33) (.cons (put_ne rfl b39) (.cons (put_ne rfl b40) (.cons put_same .nil))))) tb_ok ap_ok ?_
   refine all1 (by kernel_rfl) ?_
   intro vs ls H56 E56 st hE
   have gz : Grew H H56 := (grew_own g47 (st.inn.kept) ⟨op14, trivial⟩)
   have hc : putV x ms [.int .i32 v0, .int .i32 v1, .int .i32 v2, .flt .f32 v3, .flt .f32 v4, .flt .f32 v5, .flt .f32 v6, .int .i64 v7, .int .i64 v8] = (x, putL ms [.int .i32 v0, .int .i32 v1, .int .i32 v2, .flt .f32 v3, .flt .f32 v4, .flt .f32 v5, .flt .f32 v6, .int .i64 v7, .int .i64 v8], 0) := by
    unfold putV
    rw [if_pos f9, if_pos f8, if_pos hb46]
   exact res_ex (by kernel_rfl) (end_same st.inn hE (.inr rfl) (a := .tuple [.agg [.flt .f32 x, S51], .int .i64 0]) (by kernel_rfl) gz.next (by rw [hc]; exact ⟨gz, _, rfl, ((sS51.keep st.inn.kept ⟨by assumption, trivial⟩)).toW, fr52⟩))
end Go.Proofs.Ytacligocjfhckaa
