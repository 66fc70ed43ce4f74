/- The law of PutMark, walked. -/
import Derived.Test.YtacligocjfhckaaTPutD
set_option linter.unusedVariables false
set_option linter.unusedSimpArgs false
namespace Go.Proofs.Ytacligocjfhckaa
open Go.Ab
set_option maxRecDepth 100000
set_option maxHeartbeats 1000000
attribute [local irreducible] Res
theorem k_toMark1 (v0 v1 v2 : Int) (v3 v4 v5 v6 : Option Nat) (v7 v8 : Int) (o3 : fOk .f32 v3) (o4 : fOk .f32 v4) (o5 : fOk .f32 v5) (o6 : fOk .f32 v6) (H : AHeap) : APure Try.prog 10 [.agg [.int .i32 v0, .int .i32 v1, .int .i32 v2, .flt .f32 v3, .flt .f32 v4, .flt .f32 v5, .flt .f32 v6, .int .i64 v7, .int .i64 v8]] H (.agg [.int .i32 v0, .int .i32 v1, .int .i32 v2, .flt .f32 v3, .flt .f32 v4, .flt .f32 v5, .flt .f32 v6, .int .i64 v7, .int .i64 v8]) := by
 refine res_start h_laws_toMark (by simp) ?_
 have q1 : KdsL [K2, K2, K2, KF, KF, KF, KF, KI, KI] [.int .i32 v0, .int .i32 v1, .int .i32 v2, .flt .f32 v3, .flt .f32 v4, .flt .f32 v5, .flt .f32 v6, .int .i64 v7, .int .i64 v8] := .cons ⟨_, rfl⟩ (.cons ⟨_, rfl⟩ (.cons ⟨_, rfl⟩ (.cons ⟨_, rfl, o3⟩ (.cons ⟨_, rfl, o4⟩ (.cons ⟨_, rfl, o5⟩ (.cons ⟨_, rfl, o6⟩ (.cons ⟨_, rfl⟩ (.cons ⟨_, rfl⟩ .nil))))))))
 refine run_mc (φ := φ0) (pm := pmR 0 [] 10) 20 (ws := []) (env := [(0, .agg [n2 0, n2 1, n2 2, nF 3, nF 4, nF 5, nF 6, nI 7, nI 8])]) q1 .nil (sepOk_ro rfl) .nil (eC q1 (.cons (t := 0) rfl .nil)) tb_ok ap_ok ?_
 refine all1 (by kernel_rfl) ?_
 intro vs ls H2 E2 st hE
 refine res_ex (by kernel_rfl) (end_flat st.inn hE (.inr rfl) (a := .agg [.int .i32 v0, .int .i32 v1, .int .i32 v2, .flt .f32 v3, .flt .f32 v4, .flt .f32 v5, .flt .f32 v6, .int .i64 v7, .int .i64 v8]) (by kernel_rfl) (Grew.trans (Grew.refl _) (gk st)) rfl ⟨?_, rfl⟩)
 rfl
theorem putV_ok {x y : Option Nat} {ms L : List (List AV)} {m : List AV} {c : Int} (h : putV x ms m = (y, L, c)) (hx : fOk .f32 x) (hr : Recs KM ms) (hk : KdsL KM m) : fOk .f32 y ∧ Recs KM L ∧ L.length ≤ 1048576 := by
 have f0 : fOk .f32 (some 0) := fun b e => by cases e; exact ⟨by decide +kernel, by decide +kernel⟩
 unfold putV at h
 split at h
 ·
  rename_i ho
  split at h
  ·
   split at h
   ·
    cases h
    refine ⟨hx, putL_recs hr hk, ?_⟩
    have := okMap_len ho
    rw [putL_len]; split <;> omega
   ·
    cases h; exact ⟨f0, .nil, by decide⟩
  ·
   cases h; exact ⟨f0, .nil, by decide⟩
 ·
  cases h; exact ⟨f0, .nil, by decide⟩
theorem markArg {H : AHeap} {a : AV} (h : FitArg H (true, [.int .i32, .int .i32, .int .i32, .flt .f32, .flt .f32, .flt .f32, .flt .f32, .int .i64, .int .i64]) a) : ∃ (v0 v1 v2 : Int) (v3 v4 v5 v6 : Option Nat) (v7 v8 : Int), a = .agg [.int .i32 v0, .int .i32 v1, .int .i32 v2, .flt .f32 v3, .flt .f32 v4, .flt .f32 v5, .flt .f32 v6, .int .i64 v7, .int .i64 v8] ∧ fOk .f32 v3 ∧ fOk .f32 v4 ∧ fOk .f32 v5 ∧ fOk .f32 v6 := by
 obtain ⟨cs, rfl, hl, hc⟩ := h
 match cs, hl with
 | [c0, c1, c2, c3, c4, c5, c6, c7, c8], _ =>
  have h0 := hc 0 _ _ rfl rfl
  have h1 := hc 1 _ _ rfl rfl
  have h2 := hc 2 _ _ rfl rfl
  have h3 := hc 3 _ _ rfl rfl
  have h4 := hc 4 _ _ rfl rfl
  have h5 := hc 5 _ _ rfl rfl
  have h6 := hc 6 _ _ rfl rfl
  have h7 := hc 7 _ _ rfl rfl
  have h8 := hc 8 _ _ rfl rfl
  cases h0; cases h1; cases h2; cases h7; cases h8
  cases h3 with | flt h3 => cases h4 with | flt h4 => cases h5 with | flt h5 => cases h6 with | flt h6 =>
  exact ⟨_, _, _, _, _, _, _, _, _, rfl, h3, h4, h5, h6⟩
theorem lawExactPutMark (H : AHeap) (vs : List AV) (h : FitArgs H [(true, [.flt .f32, .sl [.int .i32, .int .i32, .int .i32, .flt .f32, .flt .f32, .flt .f32, .flt .f32, .int .i64, .int .i64]]), (true, [.int .i32, .int .i32, .int .i32, .flt .f32, .flt .f32, .flt .f32, .flt .f32, .int .i64, .int .i64])] vs) : ACalls Try.prog 3 vs H fun r _ => r = .bool true := by
 match vs, h with
 | [a, b], h =>
 obtain ⟨x, ms, S, rfl, hx, hr, hS, hmx⟩ := mapArg h.1
 obtain ⟨v0, v1, v2, v3, v4, v5, v6, v7, v8, rfl, o3, o4, o5, o6⟩ := markArg h.2.1
 clear h
 have hk : KdsL KM [.int .i32 v0, .int .i32 v1, .int .i32 v2, .flt .f32 v3, .flt .f32 v4, .flt .f32 v5, .flt .f32 v6, .int .i64 v7, .int .i64 v8] := .cons ⟨_, rfl⟩ (.cons ⟨_, rfl⟩ (.cons ⟨_, rfl⟩ (.cons ⟨_, rfl, o3⟩ (.cons ⟨_, rfl, o4⟩ (.cons ⟨_, rfl, o5⟩ (.cons ⟨_, rfl, o6⟩ (.cons ⟨_, rfl⟩ (.cons ⟨_, rfl⟩ .nil))))))))
 obtain ⟨y, L, c, hV⟩ : ∃ y L c, putV x ms [.int .i32 v0, .int .i32 v1, .int .i32 v2, .flt .f32 v3, .flt .f32 v4, .flt .f32 v5, .flt .f32 v6, .int .i64 v7, .int .i64 v8] = (y, L, c) := ⟨_, _, _, rfl⟩
 have hy := (putV_ok hV hx hr hk).1
 refine res_start h_laws_FnExactPutMark (by simp) ?_
 obtain ⟨q1, kq1, hq1⟩ : ∃ r : Int, (∀ H9, Grew H H9 → APure Try.prog 7 [.agg [.flt .f32 x, S], .int .i64 1048576] H9 (.int .i64 r)) ∧ (r < 0 ∨ r = 1048576 - ms.length) := ⟨_, fun H9 hk => k_szLandMap H9 x hx ms S (hS.grew (Grew.trans (Grew.refl _) hk)) 1048576 (by omega) (by omega) hmx, by split <;> omega⟩
 have q2 : KdsL [KF, .one, K2, K2, K2, KF, KF, KF, KF, KI, KI, KF, KI, KI] [.flt .f32 x, S, .int .i32 v0, .int .i32 v1, .int .i32 v2, .flt .f32 v3, .flt .f32 v4, .flt .f32 v5, .flt .f32 v6, .int .i64 v7, .int .i64 v8, .flt .f32 y, .int .i64 c, .int .i64 q1] := .cons ⟨_, rfl, hx⟩ (.cons (slOne hS) (.cons ⟨_, rfl⟩ (.cons ⟨_, rfl⟩ (.cons ⟨_, rfl⟩ (.cons ⟨_, rfl, o3⟩ (.cons ⟨_, rfl, o4⟩ (.cons ⟨_, rfl, o5⟩ (.cons ⟨_, rfl, o6⟩ (.cons ⟨_, rfl⟩ (.cons ⟨_, rfl⟩ (.cons ⟨_, rfl, hy⟩ (.cons ⟨_, rfl⟩ (.cons ⟨_, rfl⟩ .nil)))))))))))))
 refine run_mc (φ := φ0) (pm := pmR 0 [(.call 7 [.agg [nF 0, n1 1], .lit (.int .i64 1048576)], nI 13)] 0) 20 (ws := []) (env := [(0, .agg [nF 0, n1 1]), (1, .agg [n2 2, n2 3, n2 4, nF 5, nF 6, nF 7, nF 8, nI 9, nI 10])]) q2 .nil (sepOk_ro rfl) (.cons (rule_call (args := [.agg [.flt .f32 x, S], .int .i64 1048576]) (dL q2) (dE q2) (fun H9 hk => kq1 H9 (hk.grew (Nat.le_refl _)))) .nil) (eC q2 (.cons (t := 0) rfl (.cons (t := 1) rfl .nil))) tb_ok ap_ok ?_
 refine all2 (by kernel_rfl) ?_ ?_
 ·
  intro vs ls H3 E3 st hE
  have f4 : q1 < 0 := dt st 0
  exact res_ex (by kernel_rfl) (end_same st.inn hE (.inr rfl) (a := .bool true) (by kernel_rfl) (Nat.le_trans (Nat.le_refl _) st.kept.1) rfl)
 ·
  intro vs ls H5 E5 st hE
  have f6 : ¬ (q1 < 0) := df st 0
  have mxms : ms.length ≤ 1048576 := by omega
  obtain ⟨_, hL, mxL⟩ := putV_ok hV hx hr hk
  obtain ⟨p7, e8, r9, n10⟩ := ptr_of st.inn hE 6 2 (by kernel_rfl) (ds := [.flt .f32 (some 0), .nilslice]) (by kernel_rfl)
  have op7 : H.next ≤ p7 := Nat.le_trans (Nat.le_refl _) (n10 (Nat.le_of_ble_eq_true rfl))
  obtain ⟨p11, e12, r13, n14⟩ := ptr_of st.inn hE 2 0 (by kernel_rfl) (ds := [.flt .f32 x, S]) (by kernel_rfl)
  have op11 : H.next ≤ p11 := Nat.le_trans (Nat.le_refl _) (n14 (Nat.le_of_ble_eq_true rfl))
  obtain ⟨p15, e16, r17, n18⟩ := ptr_of st.inn hE 3 1 (by kernel_rfl) (ds := [.int .i32 v0, .int .i32 v1, .int .i32 v2, .flt .f32 v3, .flt .f32 v4, .flt .f32 v5, .flt .f32 v6, .int .i64 v7, .int .i64 v8]) (by kernel_rfl)
  have op15 : H.next ≤ p15 := Nat.le_trans (Nat.le_refl _) (n18 (Nat.le_of_ble_eq_true rfl))
  have ne19 : Apart p7 p11 := ⟨ptr_ne st.inn hE 6 2 2 0 (by kernel_rfl) (by kernel_rfl) (cs := [.lit (.flt .f32 (some 0)), .lit .nilslice]) (by kernel_rfl) (by decide) e8 e12⟩
  have ne20 : Apart p7 p15 := ⟨ptr_ne st.inn hE 6 2 3 1 (by kernel_rfl) (by kernel_rfl) (cs := [.lit (.flt .f32 (some 0)), .lit .nilslice]) (by kernel_rfl) (by decide) e8 e16⟩
  have ne21 : Apart p11 p15 := ⟨ptr_ne st.inn hE 2 0 3 1 (by kernel_rfl) (by kernel_rfl) (cs := [.nd 0 (.flt .f32), .nd 1 .one]) (by kernel_rfl) (by decide) e12 e16⟩
  have b22 := eo st hE 22 (.agg [.flt .f32 x, S])
  have b23 := eo st hE 24 (.agg [.int .i32 v0, .int .i32 v1, .int .i32 v2, .flt .f32 v3, .flt .f32 v4, .flt .f32 v5, .flt .f32 v6, .int .i64 v7, .int .i64 v8])
  have g24 : Grew H H5 := (gk st)
  have g25 : Grew H H5 := Grew.trans (Grew.refl _) g24
  clear st hE vs ls
  refine res_kid (free := false) (d := (some 23)) (f := 9) (args := [.tmp 22]) (by kernel_rfl) (R := fun z H' => Grew H5 H' ∧ ∃ S', z = .agg [.flt .f32 x, S'] ∧ SlW H' 9 ms S' ∧ FreshS H5.next S') ?_ ?_
  ·
   show ACalls _ _ [E5 22] _ _
   rw [b22]
   exact w_toLandMap H5 x hx ms hr S (hS.grew g25) mxms
  rintro z H27 ⟨gS26, S26, rfl, sS26, fS26⟩
  refine ⟨gS26, ?_⟩
  have ne28 : ApartL (S26) p7 := fS26.apartL (H5.lt_of_get r9)
  have ne29 : ApartL (S26) p11 := fS26.apartL (H5.lt_of_get r13)
  have ne30 : ApartL (S26) p15 := fS26.apartL (H5.lt_of_get r17)
  have fr31 : FreshS H.next (S26) := fS26.mono g25.next
  have g32 : Grew H H27 := Grew.trans g25 gS26
  have r33 := gS26.at r9
  have r34 := gS26.at r13
  have r35 := gS26.at r17
  have q36 := q2.app (.cons sS26.one .nil : KdsL [.one] [S26])
  refine run_mc (φ := φ0) (pm := pmR 3 [(.call 10 [.agg [n2 2, n2 3, n2 4, nF 5, nF 6, nF 7, nF 8, nI 9, nI 10]], .agg [n2 2, n2 3, n2 4, nF 5, nF 6, nF 7, nF 8, nI 9, nI 10])] 0) 20 (ws := [⟨p7, 0, [.lit (.flt .f32 (some 0)), .lit .nilslice], false⟩, ⟨p11, 0, [nF 0, n1 1], false⟩, ⟨p15, 0, [n2 2, n2 3, n2 4, nF 5, nF 6, nF 7, nF 8, nI 9, nI 10], false⟩]) (env := [(22, .agg [nF 0, n1 1]), (24, .agg [n2 2, n2 3, n2 4, nF 5, nF 6, nF 7, nF 8, nI 9, nI 10]), (6, .ptr 0 0), (2, .ptr 1 0), (3, .ptr 2 0), (23, .agg [nF 0, n1 14])]) q36 (.cons (wR r33 q36) (.cons (wR r34 q36) (.cons (wR r35 q36) .nil))) (sepOk_ro rfl) (.cons (rule_call (args := [.agg [.int .i32 v0, .int .i32 v1, .int .i32 v2, .flt .f32 v3, .flt .f32 v4, .flt .f32 v5, .flt .f32 v6, .int .i64 v7, .int .i64 v8]]) (dL q36) (dE q36) (fun H9 hk => k_toMark1 v0 v1 v2 v3 v4 v5 v6 v7 v8 o3 o4 o5 o6 H9)) .nil) (eC q36 (.cons (put_ne rfl b22) (.cons (put_ne rfl b23) (.cons (put_ne rfl e8) (.cons (put_ne rfl e12) (.cons (put_ne rfl e16) (.cons put_same .nil))))))) tb_ok ap_ok ?_
  refine all1 (by kernel_rfl) ?_
  intro vs ls H37 E37 st hE
  have b38 := eo st hE 23 (.agg [.flt .f32 x, S26])
  have b39 := eo st hE 25 (.agg [.int .i32 v0, .int .i32 v1, .int .i32 v2, .flt .f32 v3, .flt .f32 v4, .flt .f32 v5, .flt .f32 v6, .int .i64 v7, .int .i64 v8])
  have b40 := eo st hE 6 (.ptr p7 0)
  have b41 := eo st hE 2 (.ptr p11 0)
  have b42 := eo st hE 3 (.ptr p15 0)
  have g43 : Grew H27 H37 := (gk st)
  have g44 : Grew H H37 := Grew.trans g32 g43
  have r45 := g43.at r33
  have r46 := g43.at r34
  have r47 := g43.at r35
  have s48 := sS26.grew g43
  clear st hE vs ls
  refine res_kid (free := false) (d := (some 26)) (f := 8) (args := [.tmp 23, .tmp 25]) (by kernel_rfl) (R := fun z H' => Grew H37 H' ∧ ∃ S', z = .tuple [.agg [.flt .f32 y, S'], .int .i64 c] ∧ SlW H' 9 L S' ∧ FreshS H37.next S') ?_ ?_
  ·
   show ACalls _ _ [E37 23, E37 25] _ _
   rw [b38, b39]
   exact (by have h9 := k_spec_PutMark H37 x hx ms hr (S26) s48.toL mxms v0 v1 v2 v3 v4 v5 v6 v7 v8 o3 o4 o5 o6; rw [hV] at h9; exact h9)
  rintro z H49 ⟨gH49, S50, rfl, sS50, fS50⟩
  refine ⟨gH49, ?_⟩
  have ne51 : ApartL (S50) p7 := fS50.apartL (H37.lt_of_get r45)
  have ne52 : ApartL (S50) p11 := fS50.apartL (H37.lt_of_get r46)
  have ne53 : ApartL (S50) p15 := fS50.apartL (H37.lt_of_get r47)
  have ne54 : ApartS (S50) (S26) := fS50.apartS s48.lt
  have fr55 : FreshS H.next (S50) := fS50.mono g44.next
  have g56 : Grew H H49 := Grew.trans g44 gH49
  have r57 := gH49.at r45
  have r58 := gH49.at r46
  have r59 := gH49.at r47
  have s60 := s48.grew gH49
  have q61 := q36.app (.cons sS50.one .nil : KdsL [.one] [S50])
  refine run_mc (φ := φ0) (pm := pmR 2 [] 0) 20 (ws := [⟨p11, 0, [nF 0, n1 1], false⟩, ⟨p15, 0, [n2 2, n2 3, n2 4, nF 5, nF 6, nF 7, nF 8, nI 9, nI 10], false⟩, ⟨p7, 0, [.lit (.flt .f32 (some 0)), .lit .nilslice], true⟩]) (env := [(23, .agg [nF 0, n1 14]), (25, .agg [n2 2, n2 3, n2 4, nF 5, nF 6, nF 7, nF 8, nI 9, nI 10]), (6, .ptr 2 0), (2, .ptr 0 0), (3, .ptr 1 0), (26, .tup [.agg [nF 11, n1 15], nI 12])]) q61 (.cons (wR r58 q61) (.cons (wR r59 q61) (.cons (wO r57 q61) .nil))) (sepD (by repeat (first | exact .nil | refine .cons (by first | assumption | exact Apart.symm (by assumption)) ?_))) .nil (eC q61 (.cons (put_ne rfl b38) (.cons (put_ne rfl b39) (.cons (put_ne rfl b40) (.cons (put_ne rfl b41) (.cons (put_ne rfl b42) (.cons put_same .nil))))))) tb_ok ap_ok ?_
  refine all1 (by kernel_rfl) ?_
  intro vs ls H62 E62 st hE
  have r63 : H62.get p7 = some (.row [.flt .f32 y, S50] true) := row_whole st.inn 2 (l := p7) (b := 0) rfl (by kernel_rfl)
  have b64 := eo st hE 29 (.agg [.flt .f32 x, S])
  have b65 := eo st hE 3 (.ptr p15 0)
  have b66 := eo st hE 6 (.ptr p7 0)
  have b67 := eo st hE 7 (.int .i64 c)
  have b68 := eo st hE 2 (.ptr p11 0)
  have g70 : Grew H H62 := grew_own g56 st.inn.kept ⟨op7, trivial⟩
  have r71 := kept_at st.inn.kept r58 ⟨by first | assumption | exact Apart.symm (by assumption), trivial⟩
  have r72 := kept_at st.inn.kept r59 ⟨by first | assumption | exact Apart.symm (by assumption), trivial⟩
  have s73 := s60.keep st.inn.kept ⟨by assumption, trivial⟩
  have s74 := sS50.keep st.inn.kept ⟨by assumption, trivial⟩
  clear st hE vs ls
  refine res_call (d := (some 30)) (f := 9) (args := [.tmp 29]) (by kernel_rfl) (R := fun z H' => Grew H62 H' ∧ ∃ S', z = .agg [.flt .f32 x, S'] ∧ SlW H' 9 ms S' ∧ FreshS H62.next S') ?_ ?_
  ·
   show ACalls _ _ [E62 29] _ _
   rw [b64]
   exact w_toLandMap H62 x hx ms hr S (hS.grew g70) mxms
  rintro z H76 ⟨gS75, S75, rfl, sS75, fS75⟩
  have ne77 : ApartL (S75) p11 := fS75.apartL (H62.lt_of_get r71)
  have ne78 : ApartL (S75) p15 := fS75.apartL (H62.lt_of_get r72)
  have ne79 : ApartL (S75) p7 := fS75.apartL (H62.lt_of_get r63)
  have ne80 : ApartS (S75) (S26) := fS75.apartS s73.lt
  have ne81 : ApartS (S75) (S50) := fS75.apartS s74.lt
  have fr82 : FreshS H.next (S75) := fS75.mono g70.next
  have g83 : Grew H H76 := Grew.trans g70 gS75
  have r84 := gS75.at r71
  have r85 := gS75.at r72
  have r86 := gS75.at r63
  have s87 := s73.grew gS75
  have s88 := s74.grew gS75
  have q89 := q61.app (.cons sS75.one .nil : KdsL [.one] [S75])
  refine run_mc (φ := φ0) (pm := pmR 2 [(.call 10 [.agg [n2 2, n2 3, n2 4, nF 5, nF 6, nF 7, nF 8, nI 9, nI 10]], .agg [n2 2, n2 3, n2 4, nF 5, nF 6, nF 7, nF 8, nI 9, nI 10])] 0) 20 (ws := [⟨p11, 0, [nF 0, n1 1], false⟩, ⟨p15, 0, [n2 2, n2 3, n2 4, nF 5, nF 6, nF 7, nF 8, nI 9, nI 10], false⟩, ⟨p7, 0, [nF 11, n1 15], true⟩]) (env := [(29, .agg [nF 0, n1 1]), (3, .ptr 1 0), (6, .ptr 2 0), (7, nI 12), (2, .ptr 0 0), (30, .agg [nF 0, n1 16])]) q89 (.cons (wR r84 q89) (.cons (wR r85 q89) (.cons (wO r86 q89) .nil))) (sepD (by repeat (first | exact .nil | refine .cons (by first | assumption | exact Apart.symm (by assumption)) ?_))) (.cons (rule_call (args := [.agg [.int .i32 v0, .int .i32 v1, .int .i32 v2, .flt .f32 v3, .flt .f32 v4, .flt .f32 v5, .flt .f32 v6, .int .i64 v7, .int .i64 v8]]) (dL q89) (dE q89) (fun H9 hk => k_toMark1 v0 v1 v2 v3 v4 v5 v6 v7 v8 o3 o4 o5 o6 H9)) .nil) (eC q89 (.cons (put_ne rfl b64) (.cons (put_ne rfl b65) (.cons (put_ne rfl b66) (.cons (put_ne rfl b67) (.cons (put_ne rfl b68) (.cons put_same .nil))))))) tb_ok ap_ok ?_
  refine all1 (by kernel_rfl) ?_
  intro vs ls H90 E90 st hE
  obtain ⟨p91, e92, r93, n94⟩ := ptr_of st.inn hE 9 4 (by kernel_rfl) (ds := [.flt .f32 (some 0), .nilslice]) (by kernel_rfl)
  have op91 : H.next ≤ p91 := Nat.le_trans g83.next (n94 (Nat.le_of_ble_eq_true rfl))
  obtain ⟨p95, e96, r97, n98⟩ := ptr_of st.inn hE 8 3 (by kernel_rfl) (ds := [.flt .f32 x, S75]) (by kernel_rfl)
  have op95 : H.next ≤ p95 := Nat.le_trans g83.next (n98 (Nat.le_of_ble_eq_true rfl))
  have ne99 : Apart p91 p95 := ⟨ptr_ne st.inn hE 9 4 8 3 (by kernel_rfl) (by kernel_rfl) (cs := [.lit (.flt .f32 (some 0)), .lit .nilslice]) (by kernel_rfl) (by decide) e92 e96⟩
  have ne100 := apn r84 (n94 (Nat.le_of_ble_eq_true rfl))
  have ne101 := apn r85 (n94 (Nat.le_of_ble_eq_true rfl))
  have ne102 := apn r86 (n94 (Nat.le_of_ble_eq_true rfl))
  have ne103 : ApartL (S26) p91 := s87.apart_new (n94 (Nat.le_of_ble_eq_true rfl))
  have ne104 : ApartL (S50) p91 := s88.apart_new (n94 (Nat.le_of_ble_eq_true rfl))
  have ne105 : ApartL (S75) p91 := sS75.apart_new (n94 (Nat.le_of_ble_eq_true rfl))
  have ne106 := apn r84 (n98 (Nat.le_of_ble_eq_true rfl))
  have ne107 := apn r85 (n98 (Nat.le_of_ble_eq_true rfl))
  have ne108 := apn r86 (n98 (Nat.le_of_ble_eq_true rfl))
  have ne109 : ApartL (S26) p95 := s87.apart_new (n98 (Nat.le_of_ble_eq_true rfl))
  have ne110 : ApartL (S50) p95 := s88.apart_new (n98 (Nat.le_of_ble_eq_true rfl))
  have ne111 : ApartL (S75) p95 := sS75.apart_new (n98 (Nat.le_of_ble_eq_true rfl))
  have b112 := eo st hE 32 (.agg [.flt .f32 x, S75])
  have b113 := eo st hE 34 (.agg [.int .i32 v0, .int .i32 v1, .int .i32 v2, .flt .f32 v3, .flt .f32 v4, .flt .f32 v5, .flt .f32 v6, .int .i64 v7, .int .i64 v8])
  have b114 := eo st hE 6 (.ptr p7 0)
  have b115 := eo st hE 7 (.int .i64 c)
  have b116 := eo st hE 2 (.ptr p11 0)
  have b117 := eo st hE 3 (.ptr p15 0)
  have g118 : Grew H76 H90 := (gk st)
  have g119 : Grew H H90 := Grew.trans g83 g118
  have r120 := g118.at r84
  have r121 := g118.at r85
  have r122 := g118.at r86
  have s123 := s87.grew g118
  have s124 := s88.grew g118
  have s125 := sS75.grew g118
  clear st hE vs ls
  refine res_kid (free := false) (d := (some 35)) (f := 11) (args := [.tmp 32, .tmp 34]) (by kernel_rfl) (R := fun z H' => Grew H90 H' ∧ ∃ S', z = .tuple [.agg [.flt .f32 y, S'], .int .i64 c] ∧ SlW H' 9 L S' ∧ FreshS H90.next S') ?_ ?_
  ·
   show ACalls _ _ [E90 32, E90 34] _ _
   rw [b112, b113]
   exact (by have h9 := k_impl_PutMark H90 x hx ms hr (S75) s125.toL mxms v0 v1 v2 v3 v4 v5 v6 v7 v8 o3 o4 o5 o6; rw [hV] at h9; exact h9)
  rintro z H126 ⟨gH126, S127, rfl, sS127, fS127⟩
  refine ⟨gH126, ?_⟩
  have ne128 : ApartL (S127) p11 := fS127.apartL (H90.lt_of_get r120)
  have ne129 : ApartL (S127) p15 := fS127.apartL (H90.lt_of_get r121)
  have ne130 : ApartL (S127) p91 := fS127.apartL (H90.lt_of_get r93)
  have ne131 : ApartL (S127) p95 := fS127.apartL (H90.lt_of_get r97)
  have ne132 : ApartL (S127) p7 := fS127.apartL (H90.lt_of_get r122)
  have ne133 : ApartS (S127) (S26) := fS127.apartS s123.lt
  have ne134 : ApartS (S127) (S50) := fS127.apartS s124.lt
  have ne135 : ApartS (S127) (S75) := fS127.apartS s125.lt
  have fr136 : FreshS H.next (S127) := fS127.mono g119.next
  have g137 : Grew H H126 := Grew.trans g119 gH126
  have r138 := gH126.at r120
  have r139 := gH126.at r121
  have r140 := gH126.at r93
  have r141 := gH126.at r97
  have r142 := gH126.at r122
  have s143 := s123.grew gH126
  have s144 := s124.grew gH126
  have s145 := s125.grew gH126
  have q146 := q89.app (.cons sS127.one .nil : KdsL [.one] [S127])
  refine run_mc (φ := φ0) (pm := pmR 3 [(.call 12 [.agg [nF 11, n1 17], .agg [nF 11, n1 15]], .lit (.bool true))] 0) 20 (ws := [⟨p11, 0, [nF 0, n1 1], false⟩, ⟨p15, 0, [n2 2, n2 3, n2 4, nF 5, nF 6, nF 7, nF 8, nI 9, nI 10], false⟩, ⟨p95, 0, [nF 0, n1 16], false⟩, ⟨p7, 0, [nF 11, n1 15], true⟩, ⟨p91, 0, [.lit (.flt .f32 (some 0)), .lit .nilslice], true⟩]) (env := [(32, .agg [nF 0, n1 16]), (34, .agg [n2 2, n2 3, n2 4, nF 5, nF 6, nF 7, nF 8, nI 9, nI 10]), (9, .ptr 4 0), (6, .ptr 3 0), (7, nI 12), (8, .ptr 2 0), (2, .ptr 0 0), (3, .ptr 1 0), (35, .tup [.agg [nF 11, n1 17], nI 12])]) q146 (.cons (wR r138 q146) (.cons (wR r139 q146) (.cons (wR r141 q146) (.cons (wO r142 q146) (.cons (wO r140 q146) .nil))))) (sepD (by repeat (first | exact .nil | refine .cons (by first | assumption | exact Apart.symm (by assumption)) ?_))) (.cons (rule_call (args := [.agg [.flt .f32 y, S127], .agg [.flt .f32 y, S50]]) (r := .bool true) (dL q146) (dE q146) (fun H9 hk => k_eqLandMap H9 y hy L hL _ _ ((sS127.keep hk ⟨by assumption, ⟨by assumption, trivial⟩⟩)).toL ((s144.keep hk ⟨by assumption, ⟨by assumption, trivial⟩⟩)).toL (mx40 mxL))) .nil) (eC q146 (.cons (put_ne rfl b112) (.cons (put_ne rfl b113) (.cons (put_ne rfl e92) (.cons (put_ne rfl b114) (.cons (put_ne rfl b115) (.cons (put_ne rfl e96) (.cons (put_ne rfl b116) (.cons (put_ne rfl b117) (.cons put_same .nil)))))))))) tb_ok ap_ok ?_
  refine all1 (by kernel_rfl) ?_
  intro vs ls H147 E147 st hE
  have r148 : H147.get p7 = some (.row [.flt .f32 y, S50] true) := row_whole st.inn 3 (l := p7) (b := 0) rfl (by kernel_rfl)
  have r149 : H147.get p91 = some (.row [.flt .f32 y, S127] true) := row_whole st.inn 4 (l := p91) (b := 0) rfl (by kernel_rfl)
  have b150 := eo st hE 48 (.agg [.flt .f32 x, S])
  have b151 := eo st hE 47 (.agg [.flt .f32 x, S75])
  have b152 := eo st hE 8 (.ptr p95 0)
  have b153 := eo st hE 9 (.ptr p91 0)
  have b154 := eo st hE 6 (.ptr p7 0)
  have b155 := eo st hE 10 (.int .i64 c)
  have b156 := eo st hE 7 (.int .i64 c)
  have b157 := eo st hE 2 (.ptr p11 0)
  have b158 := eo st hE 3 (.ptr p15 0)
  have g160 : Grew H H147 := grew_own g137 st.inn.kept ⟨op7, ⟨op91, trivial⟩⟩
  have r161 := kept_at st.inn.kept r138 ⟨by first | assumption | exact Apart.symm (by assumption), ⟨by first | assumption | exact Apart.symm (by assumption), trivial⟩⟩
  have r162 := kept_at st.inn.kept r139 ⟨by first | assumption | exact Apart.symm (by assumption), ⟨by first | assumption | exact Apart.symm (by assumption), trivial⟩⟩
  have r163 := kept_at st.inn.kept r141 ⟨by first | assumption | exact Apart.symm (by assumption), ⟨by first | assumption | exact Apart.symm (by assumption), trivial⟩⟩
  have s164 := s143.keep st.inn.kept ⟨by assumption, ⟨by assumption, trivial⟩⟩
  have s165 := s144.keep st.inn.kept ⟨by assumption, ⟨by assumption, trivial⟩⟩
  have s166 := s145.keep st.inn.kept ⟨by assumption, ⟨by assumption, trivial⟩⟩
  have s167 := sS127.keep st.inn.kept ⟨by assumption, ⟨by assumption, trivial⟩⟩
  clear st hE vs ls
  refine res_kid (free := false) (d := (some 49)) (f := 9) (args := [.tmp 48]) (by kernel_rfl) (R := fun z H' => Grew H147 H' ∧ ∃ S', z = .agg [.flt .f32 x, S'] ∧ SlW H' 9 ms S' ∧ FreshS H147.next S') ?_ ?_
  ·
   show ACalls _ _ [E147 48] _ _
   rw [b150]
   exact w_toLandMap H147 x hx ms hr S (hS.grew g160) mxms
  rintro z H169 ⟨gS168, S168, rfl, sS168, fS168⟩
  refine ⟨gS168, ?_⟩
  have ne170 : ApartL (S168) p11 := fS168.apartL (H147.lt_of_get r161)
  have ne171 : ApartL (S168) p15 := fS168.apartL (H147.lt_of_get r162)
  have ne172 : ApartL (S168) p95 := fS168.apartL (H147.lt_of_get r163)
  have ne173 : ApartL (S168) p7 := fS168.apartL (H147.lt_of_get r148)
  have ne174 : ApartL (S168) p91 := fS168.apartL (H147.lt_of_get r149)
  have ne175 : ApartS (S168) (S26) := fS168.apartS s164.lt
  have ne176 : ApartS (S168) (S50) := fS168.apartS s165.lt
  have ne177 : ApartS (S168) (S75) := fS168.apartS s166.lt
  have ne178 : ApartS (S168) (S127) := fS168.apartS s167.lt
  have fr179 : FreshS H.next (S168) := fS168.mono g160.next
  have g180 : Grew H H169 := Grew.trans g160 gS168
  have r181 := gS168.at r161
  have r182 := gS168.at r162
  have r183 := gS168.at r163
  have r184 := gS168.at r148
  have r185 := gS168.at r149
  have s186 := s164.grew gS168
  have s187 := s165.grew gS168
  have s188 := s166.grew gS168
  have s189 := s167.grew gS168
  have q190 := q146.app (.cons sS168.one .nil : KdsL [.one] [S168])
  refine run_mc (φ := φ0) (pm := pmR 3 [(.call 12 [.agg [nF 0, n1 16], .agg [nF 0, n1 18]], .lit (.bool true))] 0) 20 (ws := [⟨p11, 0, [nF 0, n1 1], false⟩, ⟨p15, 0, [n2 2, n2 3, n2 4, nF 5, nF 6, nF 7, nF 8, nI 9, nI 10], false⟩, ⟨p95, 0, [nF 0, n1 16], false⟩, ⟨p7, 0, [nF 11, n1 15], true⟩, ⟨p91, 0, [nF 11, n1 17], true⟩]) (env := [(48, .agg [nF 0, n1 1]), (47, .agg [nF 0, n1 16]), (8, .ptr 2 0), (9, .ptr 4 0), (6, .ptr 3 0), (10, nI 12), (7, nI 12), (2, .ptr 0 0), (3, .ptr 1 0), (49, .agg [nF 0, n1 18])]) q190 (.cons (wR r181 q190) (.cons (wR r182 q190) (.cons (wR r183 q190) (.cons (wO r184 q190) (.cons (wO r185 q190) .nil))))) (sepD (by repeat (first | exact .nil | refine .cons (by first | assumption | exact Apart.symm (by assumption)) ?_))) (.cons (rule_call (args := [.agg [.flt .f32 x, S75], .agg [.flt .f32 x, S168]]) (r := .bool true) (dL q190) (dE q190) (fun H9 hk => k_eqLandMap H9 x hx ms hr _ _ ((s188.keep hk ⟨by assumption, ⟨by assumption, trivial⟩⟩)).toL ((sS168.keep hk ⟨by assumption, ⟨by assumption, trivial⟩⟩)).toL (mx40 mxms))) .nil) (eC q190 (.cons (put_ne rfl b150) (.cons (put_ne rfl b151) (.cons (put_ne rfl b152) (.cons (put_ne rfl b153) (.cons (put_ne rfl b154) (.cons (put_ne rfl b155) (.cons (put_ne rfl b156) (.cons (put_ne rfl b157) (.cons (put_ne rfl b158) (.cons put_same .nil))))))))))) tb_ok ap_ok ?_
  refine all1 (by kernel_rfl) ?_
  intro vs ls H191 E191 st hE
  have b192 := eo st hE 52 (.agg [.flt .f32 x, S75])
  have b193 := eo st hE 53 (.int .i64 1)
  have b194 := eo st hE 11 (.int .i64 1)
  have b195 := eo st hE 9 (.ptr p91 0)
  have b196 := eo st hE 6 (.ptr p7 0)
  have b197 := eo st hE 10 (.int .i64 c)
  have b198 := eo st hE 7 (.int .i64 c)
  have b199 := eo st hE 2 (.ptr p11 0)
  have b200 := eo st hE 3 (.ptr p15 0)
  have g201 : Grew H169 H191 := (gk st)
  have g202 : Grew H H191 := Grew.trans g180 g201
  have r203 := g201.at r181
  have r204 := g201.at r182
  have r206 := g201.at r184
  have r207 := g201.at r185
  have s208 := s186.grew g201
  have s209 := s187.grew g201
  have s210 := s188.grew g201
  have s211 := s189.grew g201
  have s212 := sS168.grew g201
  clear st hE vs ls
  refine res_call (d := (some 54)) (f := 13) (args := [.tmp 52, .tmp 53]) (by kernel_rfl) (R := fun z H' => z = .int .i64 (1 + 9 * (ms.length : Int)) ∧ OnlyS S75 H191 H' ∧ SlW H' 9 (mksMark 1 ms.length) S75) ?_ ?_
  ·
   show ACalls _ _ [E191 52, E191 53] _ _
   rw [b192, b193]
   exact w_markLandMap H191 x hx ms hr S75 s210 1 (by decide) (by decide) mxms
  rintro z H213 ⟨rfl, oH213, nH213⟩
  have g214 : Grew H H213 := OnlyS.own g202 fr82 oH213
  have r215 := oH213.at r203 (by assumption)
  have r216 := oH213.at r204 (by assumption)
  have r217 := oH213.at r206 (by assumption)
  have r218 := oH213.at r207 (by assumption)
  have s219 := s208.only oH213 (by first | assumption | exact ApartS.symm (by assumption))
  have s220 := s209.only oH213 (by first | assumption | exact ApartS.symm (by assumption))
  have s221 := s211.only oH213 (by first | assumption | exact ApartS.symm (by assumption))
  have s222 := s212.only oH213 (by first | assumption | exact ApartS.symm (by assumption))
  have q223 := q190.app (.cons ⟨_, rfl⟩ .nil : KdsL [KI] [.int .i64 (1 + 9 * (ms.length : Int))])
  refine run_mc (φ := φ0) (pm := pmR 2 [(.call 12 [.agg [nF 11, n1 17], .agg [nF 11, n1 15]], .lit (.bool true))] 0) 20 (ws := [⟨p11, 0, [nF 0, n1 1], false⟩, ⟨p15, 0, [n2 2, n2 3, n2 4, nF 5, nF 6, nF 7, nF 8, nI 9, nI 10], false⟩, ⟨p7, 0, [nF 11, n1 15], true⟩, ⟨p91, 0, [nF 11, n1 17], true⟩]) (env := [(52, .agg [nF 0, n1 16]), (53, .lit (.int .i64 1)), (11, .lit (.int .i64 1)), (9, .ptr 3 0), (6, .ptr 2 0), (10, nI 12), (7, nI 12), (2, .ptr 0 0), (3, .ptr 1 0), (54, nI 19)]) q223 (.cons (wR r215 q223) (.cons (wR r216 q223) (.cons (wO r217 q223) (.cons (wO r218 q223) .nil)))) (sepD (by repeat (first | exact .nil | refine .cons (by first | assumption | exact Apart.symm (by assumption)) ?_))) (.cons (rule_call (args := [.agg [.flt .f32 y, S127], .agg [.flt .f32 y, S50]]) (r := .bool true) (dL q223) (dE q223) (fun H9 hk => k_eqLandMap H9 y hy L hL _ _ ((s221.keep hk ⟨by assumption, ⟨by assumption, trivial⟩⟩)).toL ((s220.keep hk ⟨by assumption, ⟨by assumption, trivial⟩⟩)).toL (mx40 mxL))) .nil) (eC q223 (.cons (put_ne rfl b192) (.cons (put_ne rfl b193) (.cons (put_ne rfl b194) (.cons (put_ne rfl b195) (.cons (put_ne rfl b196) (.cons (put_ne rfl b197) (.cons (put_ne rfl b198) (.cons (put_ne rfl b199) (.cons (put_ne rfl b200) (.cons put_same .nil))))))))))) tb_ok ap_ok ?_
  refine all2 (by kernel_rfl) ?_ ?_
  ·
   intro vs ls H224 E224 st hE
   have f225 : (1 + 9 * (ms.length : Int)) < 0 := dt st 0
   exact absurd f225 (by omega)
  ·
   intro vs ls H226 E226 st hE
   have f227 : ¬ ((1 + 9 * (ms.length : Int)) < 0) := df st 0
   have b228 := eo st hE 68 (.agg [.flt .f32 y, S127])
   have b229 := eo st hE 69 (.int .i64 1)
   have b230 := eo st hE 9 (.ptr p91 0)
   have b231 := eo st hE 12 (.int .i64 1)
   have b232 := eo st hE 2 (.ptr p11 0)
   have b233 := eo st hE 3 (.ptr p15 0)
   have b234 := eo st hE 6 (.ptr p7 0)
   have b235 := eo st hE 7 (.int .i64 c)
   have g236 : Grew H213 H226 := (gk st)
   have g237 : Grew H H226 := Grew.trans g214 g236
   have r238 := g236.at r215
   have r239 := g236.at r216
   have r240 := g236.at r217
   have r241 := g236.at r218
   have s242 := s219.grew g236
   have s243 := s220.grew g236
   have s244 := nH213.grew g236
   have s245 := s221.grew g236
   have s246 := s222.grew g236
   clear st hE vs ls
   refine res_call (d := (some 70)) (f := 13) (args := [.tmp 68, .tmp 69]) (by kernel_rfl) (R := fun z H' => z = .int .i64 (1 + 9 * (L.length : Int)) ∧ OnlyS S127 H226 H' ∧ SlW H' 9 (mksMark 1 L.length) S127) ?_ ?_
   ·
    show ACalls _ _ [E226 68, E226 69] _ _
    rw [b228, b229]
    exact w_markLandMap H226 y hy L hL S127 s245 1 (by decide) (by decide) mxL
   rintro z H247 ⟨rfl, oH247, nH247⟩
   have g248 : Grew H H247 := OnlyS.own g237 fr136 oH247
   have r249 := oH247.at r238 (by assumption)
   have r250 := oH247.at r239 (by assumption)
   have r251 := oH247.at r240 (by assumption)
   have r252 := oH247.at r241 (by assumption)
   have s253 := s242.only oH247 (by first | assumption | exact ApartS.symm (by assumption))
   have s254 := s243.only oH247 (by first | assumption | exact ApartS.symm (by assumption))
   have s255 := s244.only oH247 (by first | assumption | exact ApartS.symm (by assumption))
   have s256 := s246.only oH247 (by first | assumption | exact ApartS.symm (by assumption))
   have q257 := q223.app (.cons ⟨_, rfl⟩ .nil : KdsL [KI] [.int .i64 (1 + 9 * (L.length : Int))])
   refine run_mc (φ := φ0) (pm := pmR 2 [(.call 14 [.agg [nF 11, n1 17], .lit (.int .i64 1)], nI 20)] 0) 20 (ws := [⟨p11, 0, [nF 0, n1 1], false⟩, ⟨p15, 0, [n2 2, n2 3, n2 4, nF 5, nF 6, nF 7, nF 8, nI 9, nI 10], false⟩, ⟨p7, 0, [nF 11, n1 15], true⟩, ⟨p91, 0, [nF 11, n1 17], true⟩]) (env := [(68, .agg [nF 11, n1 17]), (69, .lit (.int .i64 1)), (9, .ptr 3 0), (12, .lit (.int .i64 1)), (2, .ptr 0 0), (3, .ptr 1 0), (6, .ptr 2 0), (7, nI 12), (70, nI 20)]) q257 (.cons (wR r249 q257) (.cons (wR r250 q257) (.cons (wO r251 q257) (.cons (wO r252 q257) .nil)))) (sepD (by repeat (first | exact .nil | refine .cons (by first | assumption | exact Apart.symm (by assumption)) ?_))) (.cons (rule_call (args := [.agg [.flt .f32 y, S127], .int .i64 1]) (r := .int .i64 (1 + 9 * (L.length : Int))) (dL q257) (dE q257) (fun H9 hk => w_heldLandMap H9 y hy 1 L.length S127 ((nH247.keep hk ⟨by assumption, ⟨by assumption, trivial⟩⟩)).toL (by decide) (by decide) mxL)) .nil) (eC q257 (.cons (put_ne rfl b228) (.cons (put_ne rfl b229) (.cons (put_ne rfl b230) (.cons (put_ne rfl b231) (.cons (put_ne rfl b232) (.cons (put_ne rfl b233) (.cons (put_ne rfl b234) (.cons (put_ne rfl b235) (.cons put_same .nil)))))))))) tb_ok ap_ok ?_
   refine all2 (by kernel_rfl) ?_ ?_
   ·
    intro vs ls H258 E258 st hE
    have f259 : (1 + 9 * (L.length : Int)) < 0 := dt st 0
    exact absurd f259 (by omega)
   ·
    intro vs ls H260 E260 st hE
    have f261 : ¬ ((1 + 9 * (L.length : Int)) < 0) := df st 0
    obtain ⟨p262, e263, r264, n265⟩ := ptr_of st.inn hE 14 4 (by kernel_rfl) (ds := [.flt .f32 (some 0), .nilslice]) (by kernel_rfl)
    have op262 : H.next ≤ p262 := Nat.le_trans g248.next (n265 (Nat.le_of_ble_eq_true rfl))
    have ne266 := apn r249 (n265 (Nat.le_of_ble_eq_true rfl))
    have ne267 := apn r250 (n265 (Nat.le_of_ble_eq_true rfl))
    have ne268 := apn r251 (n265 (Nat.le_of_ble_eq_true rfl))
    have ne269 := apn r252 (n265 (Nat.le_of_ble_eq_true rfl))
    have ne270 : ApartL (S26) p262 := s253.apart_new (n265 (Nat.le_of_ble_eq_true rfl))
    have ne271 : ApartL (S50) p262 := s254.apart_new (n265 (Nat.le_of_ble_eq_true rfl))
    have ne272 : ApartL (S75) p262 := s255.apart_new (n265 (Nat.le_of_ble_eq_true rfl))
    have ne273 : ApartL (S127) p262 := nH247.apart_new (n265 (Nat.le_of_ble_eq_true rfl))
    have ne274 : ApartL (S168) p262 := s256.apart_new (n265 (Nat.le_of_ble_eq_true rfl))
    have b275 := eo st hE 80 (.agg [.flt .f32 x, S])
    have b276 := eo st hE 82 (.agg [.int .i32 v0, .int .i32 v1, .int .i32 v2, .flt .f32 v3, .flt .f32 v4, .flt .f32 v5, .flt .f32 v6, .int .i64 v7, .int .i64 v8])
    have b277 := eo st hE 6 (.ptr p7 0)
    have b278 := eo st hE 7 (.int .i64 c)
    have b279 := eo st hE 9 (.ptr p91 0)
    have b280 := eo st hE 13 (.int .i64 (1 + 9 * (L.length : Int)))
    have b281 := eo st hE 12 (.int .i64 (1 + 9 * (L.length : Int)))
    have g282 : Grew H247 H260 := (gk st)
    have g283 : Grew H H260 := Grew.trans g248 g282
    have r286 := g282.at r251
    have r287 := g282.at r252
    have s288 := s253.grew g282
    have s289 := s254.grew g282
    have s290 := s255.grew g282
    have s291 := nH247.grew g282
    have s292 := s256.grew g282
    clear st hE vs ls
    refine res_kid (free := false) (d := (some 81)) (f := 9) (args := [.tmp 80]) (by kernel_rfl) (R := fun z H' => Grew H260 H' ∧ ∃ S', z = .agg [.flt .f32 x, S'] ∧ SlW H' 9 ms S' ∧ FreshS H260.next S') ?_ ?_
    ·
     show ACalls _ _ [E260 80] _ _
     rw [b275]
     exact w_toLandMap H260 x hx ms hr S (hS.grew g283) mxms
    rintro z H294 ⟨gS293, S293, rfl, sS293, fS293⟩
    refine ⟨gS293, ?_⟩
    have ne295 : ApartL (S293) p262 := fS293.apartL (H260.lt_of_get r264)
    have ne296 : ApartL (S293) p7 := fS293.apartL (H260.lt_of_get r286)
    have ne297 : ApartL (S293) p91 := fS293.apartL (H260.lt_of_get r287)
    have ne298 : ApartS (S293) (S26) := fS293.apartS s288.lt
    have ne299 : ApartS (S293) (S50) := fS293.apartS s289.lt
    have ne300 : ApartS (S293) (S75) := fS293.apartS s290.lt
    have ne301 : ApartS (S293) (S127) := fS293.apartS s291.lt
    have ne302 : ApartS (S293) (S168) := fS293.apartS s292.lt
    have fr303 : FreshS H.next (S293) := fS293.mono g283.next
    have g304 : Grew H H294 := Grew.trans g283 gS293
    have r305 := gS293.at r264
    have r306 := gS293.at r286
    have r307 := gS293.at r287
    have s308 := s288.grew gS293
    have s309 := s289.grew gS293
    have s310 := s290.grew gS293
    have s311 := s291.grew gS293
    have s312 := s292.grew gS293
    have q313 := q257.app (.cons sS293.one .nil : KdsL [.one] [S293])
    refine run_mc (φ := φ0) (pm := pmR 1 [(.call 10 [.agg [n2 2, n2 3, n2 4, nF 5, nF 6, nF 7, nF 8, nI 9, nI 10]], .agg [n2 2, n2 3, n2 4, nF 5, nF 6, nF 7, nF 8, nI 9, nI 10])] 0) 20 (ws := [⟨p262, 0, [.lit (.flt .f32 (some 0)), .lit .nilslice], false⟩, ⟨p7, 0, [nF 11, n1 15], true⟩, ⟨p91, 0, [nF 11, n1 17], true⟩]) (env := [(80, .agg [nF 0, n1 1]), (82, .agg [n2 2, n2 3, n2 4, nF 5, nF 6, nF 7, nF 8, nI 9, nI 10]), (14, .ptr 0 0), (6, .ptr 1 0), (7, nI 12), (9, .ptr 2 0), (13, nI 20), (12, nI 20), (81, .agg [nF 0, n1 21])]) q313 (.cons (wR r305 q313) (.cons (wO r306 q313) (.cons (wO r307 q313) .nil))) (sepD (by repeat (first | exact .nil | refine .cons (by first | assumption | exact Apart.symm (by assumption)) ?_))) (.cons (rule_call (args := [.agg [.int .i32 v0, .int .i32 v1, .int .i32 v2, .flt .f32 v3, .flt .f32 v4, .flt .f32 v5, .flt .f32 v6, .int .i64 v7, .int .i64 v8]]) (dL q313) (dE q313) (fun H9 hk => k_toMark1 v0 v1 v2 v3 v4 v5 v6 v7 v8 o3 o4 o5 o6 H9)) .nil) (eC q313 (.cons (put_ne rfl b275) (.cons (put_ne rfl b276) (.cons (put_ne rfl e263) (.cons (put_ne rfl b277) (.cons (put_ne rfl b278) (.cons (put_ne rfl b279) (.cons (put_ne rfl b280) (.cons (put_ne rfl b281) (.cons put_same .nil)))))))))) tb_ok ap_ok ?_
    refine all1 (by kernel_rfl) ?_
    intro vs ls H314 E314 st hE
    have b315 := eo st hE 81 (.agg [.flt .f32 x, S293])
    have b316 := eo st hE 83 (.agg [.int .i32 v0, .int .i32 v1, .int .i32 v2, .flt .f32 v3, .flt .f32 v4, .flt .f32 v5, .flt .f32 v6, .int .i64 v7, .int .i64 v8])
    have b317 := eo st hE 14 (.ptr p262 0)
    have b318 := eo st hE 6 (.ptr p7 0)
    have b319 := eo st hE 7 (.int .i64 c)
    have b320 := eo st hE 9 (.ptr p91 0)
    have b321 := eo st hE 13 (.int .i64 (1 + 9 * (L.length : Int)))
    have b322 := eo st hE 12 (.int .i64 (1 + 9 * (L.length : Int)))
    have g323 : Grew H294 H314 := (gk st)
    have g324 : Grew H H314 := Grew.trans g304 g323
    have r325 := g323.at r305
    have r326 := g323.at r306
    have r327 := g323.at r307
    have s328 := s308.grew g323
    have s329 := s309.grew g323
    have s330 := s310.grew g323
    have s331 := s311.grew g323
    have s332 := s312.grew g323
    have s333 := sS293.grew g323
    clear st hE vs ls
    refine res_kid (free := false) (d := (some 84)) (f := 11) (args := [.tmp 81, .tmp 83]) (by kernel_rfl) (R := fun z H' => Grew H314 H' ∧ ∃ S', z = .tuple [.agg [.flt .f32 y, S'], .int .i64 c] ∧ SlW H' 9 L S' ∧ FreshS H314.next S') ?_ ?_
    ·
     show ACalls _ _ [E314 81, E314 83] _ _
     rw [b315, b316]
     exact (by have h9 := k_impl_PutMark H314 x hx ms hr (S293) s333.toL mxms v0 v1 v2 v3 v4 v5 v6 v7 v8 o3 o4 o5 o6; rw [hV] at h9; exact h9)
    rintro z H334 ⟨gH334, S335, rfl, sS335, fS335⟩
    refine ⟨gH334, ?_⟩
    have ne336 : ApartL (S335) p262 := fS335.apartL (H314.lt_of_get r325)
    have ne337 : ApartL (S335) p7 := fS335.apartL (H314.lt_of_get r326)
    have ne338 : ApartL (S335) p91 := fS335.apartL (H314.lt_of_get r327)
    have ne339 : ApartS (S335) (S26) := fS335.apartS s328.lt
    have ne340 : ApartS (S335) (S50) := fS335.apartS s329.lt
    have ne341 : ApartS (S335) (S75) := fS335.apartS s330.lt
    have ne342 : ApartS (S335) (S127) := fS335.apartS s331.lt
    have ne343 : ApartS (S335) (S168) := fS335.apartS s332.lt
    have ne344 : ApartS (S335) (S293) := fS335.apartS s333.lt
    have fr345 : FreshS H.next (S335) := fS335.mono g324.next
    have g346 : Grew H H334 := Grew.trans g324 gH334
    have r347 := gH334.at r325
    have r348 := gH334.at r326
    have r349 := gH334.at r327
    have s351 := s329.grew gH334
    have s353 := s331.grew gH334
    have q356 := q313.app (.cons sS335.one .nil : KdsL [.one] [S335])
    refine run_mc (φ := φ0) (pm := pmR 0 [(.call 12 [.agg [nF 11, n1 22], .agg [nF 11, n1 15]], .lit (.bool true)), (.call 14 [.agg [nF 11, n1 17], .lit (.int .i64 1)], nI 20)] 0) 20 (ws := [⟨p7, 0, [nF 11, n1 15], true⟩, ⟨p91, 0, [nF 11, n1 17], true⟩, ⟨p262, 0, [.lit (.flt .f32 (some 0)), .lit .nilslice], true⟩]) (env := [(81, .agg [nF 0, n1 21]), (83, .agg [n2 2, n2 3, n2 4, nF 5, nF 6, nF 7, nF 8, nI 9, nI 10]), (14, .ptr 2 0), (6, .ptr 0 0), (7, nI 12), (9, .ptr 1 0), (13, nI 20), (12, nI 20), (84, .tup [.agg [nF 11, n1 22], nI 12])]) q356 (.cons (wO r348 q356) (.cons (wO r349 q356) (.cons (wO r347 q356) .nil))) (sepD (by repeat (first | exact .nil | refine .cons (by first | assumption | exact Apart.symm (by assumption)) ?_))) (.cons (rule_call (args := [.agg [.flt .f32 y, S335], .agg [.flt .f32 y, S50]]) (r := .bool true) (dL q356) (dE q356) (fun H9 hk => k_eqLandMap H9 y hy L hL _ _ ((sS335.keep hk ⟨by assumption, ⟨by assumption, ⟨by assumption, trivial⟩⟩⟩)).toL ((s351.keep hk ⟨by assumption, ⟨by assumption, ⟨by assumption, trivial⟩⟩⟩)).toL (mx40 mxL))) (.cons (rule_call (args := [.agg [.flt .f32 y, S127], .int .i64 1]) (r := .int .i64 (1 + 9 * (L.length : Int))) (dL q356) (dE q356) (fun H9 hk => w_heldLandMap H9 y hy 1 L.length S127 ((s353.keep hk ⟨by assumption, ⟨by assumption, ⟨by assumption, trivial⟩⟩⟩)).toL (by decide) (by decide) mxL)) .nil)) (eC q356 (.cons (put_ne rfl b315) (.cons (put_ne rfl b316) (.cons (put_ne rfl b317) (.cons (put_ne rfl b318) (.cons (put_ne rfl b319) (.cons (put_ne rfl b320) (.cons (put_ne rfl b321) (.cons (put_ne rfl b322) (.cons put_same .nil)))))))))) tb_ok ap_ok ?_
    refine all2 (by kernel_rfl) ?_ ?_
    ·
     intro vs ls H357 E357 st hE
     have f358 : (1 + 9 * (L.length : Int)) < 0 := dt st 0
     exact absurd f358 (by omega)
    ·
     intro vs ls H359 E359 st hE
     have f360 : ¬ ((1 + 9 * (L.length : Int)) < 0) := df st 0
     exact res_ex (by kernel_rfl) (end_same st.inn hE (.inr rfl) (a := .bool true) (by kernel_rfl) (Nat.le_trans g346.next st.kept.1) rfl)
end Go.Proofs.Ytacligocjfhckaa
