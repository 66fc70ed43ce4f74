/- The law of MergeMaps, walked. -/
import Derived.Test.YtacligocjfhckaaTMerge
set_option linter.unusedVariables false
set_option linter.unusedSimpArgs false
namespace Go.Proofs.Ytacligocjfhckaa
open Go.Ab
set_option maxRecDepth 100000
set_option maxHeartbeats 1000000
attribute [local irreducible] Res
theorem mergeV_ok {x x2 y : Option Nat} {ms ms2 L : List (List AV)} {c : Int} (h : mergeV x ms x2 ms2 = (y, L, c)) (hx : fOk .f32 x) (hr : Recs KM ms) (hr2 : Recs KM ms2) : fOk .f32 y ∧ Recs KM L ∧ L.length ≤ 1048576 := by
 have f0 : fOk .f32 (some 0) := fun b e => by cases e; exact ⟨by decide +kernel, by decide +kernel⟩
 unfold mergeV at h
 split at h
 ·
  split at h
  ·
   rename_i hl
   cases h
   exact ⟨hx, mrg_recs hr hr2 _ (Nat.le_refl _), Nat.le_trans hl (by decide)⟩
  ·
   cases h; exact ⟨f0, .nil, by decide⟩
 ·
  cases h; exact ⟨f0, .nil, by decide⟩
theorem lawExactMergeMaps (H : AHeap) (vs : List AV) (h : FitArgs H [(true, [.flt .f32, .sl [.int .i32, .int .i32, .int .i32, .flt .f32, .flt .f32, .flt .f32, .flt .f32, .int .i64, .int .i64]]), (true, [.flt .f32, .sl [.int .i32, .int .i32, .int .i32, .flt .f32, .flt .f32, .flt .f32, .flt .f32, .int .i64, .int .i64]])] vs) : ACalls Try.prog 4 vs H fun r _ => r = .bool true := by
 match vs, h with
 | [a, b], h =>
 obtain ⟨x, ms, S, rfl, hx, hr, hS, hmx⟩ := mapArg h.1
 obtain ⟨x2, ms2, S2, rfl, hx2, hr2, hS2, hmx2⟩ := mapArg h.2.1
 clear h
 obtain ⟨y, L, c, hV⟩ : ∃ y L c, mergeV x ms x2 ms2 = (y, L, c) := ⟨_, _, _, rfl⟩
 have hy := (mergeV_ok hV hx hr hr2).1
 refine res_start h_laws_FnExactMergeMaps (by simp) ?_
 obtain ⟨q1, kq1, hq1⟩ : ∃ r : Int, (∀ H9, Grew H H9 → APure Try.prog 7 [.agg [.flt .f32 x, S], .int .i64 1048576] H9 (.int .i64 r)) ∧ (r < 0 ∨ r = 1048576 - ms.length) := ⟨_, fun H9 hk => k_szLandMap H9 x hx ms S (hS.grew (Grew.trans (Grew.refl _) hk)) 1048576 (by omega) (by omega) hmx, by split <;> omega⟩
 have q2 : KdsL [KF, .one, KF, .one, KF, KI, KI] [.flt .f32 x, S, .flt .f32 x2, S2, .flt .f32 y, .int .i64 c, .int .i64 q1] := .cons ⟨_, rfl, hx⟩ (.cons (slOne hS) (.cons ⟨_, rfl, hx2⟩ (.cons (slOne hS2) (.cons ⟨_, rfl, hy⟩ (.cons ⟨_, rfl⟩ (.cons ⟨_, rfl⟩ .nil))))))
 refine run_mc (φ := φ0) (pm := pmR 0 [(.call 7 [.agg [nF 0, n1 1], .lit (.int .i64 1048576)], nI 6)] 0) 20 (ws := []) (env := [(0, .agg [nF 0, n1 1]), (1, .agg [nF 2, n1 3])]) q2 .nil (sepOk_ro rfl) (.cons (rule_call (args := [.agg [.flt .f32 x, S], .int .i64 1048576]) (dL q2) (dE q2) (fun H9 hk => kq1 H9 (hk.grew (Nat.le_refl _)))) .nil) (eC q2 (.cons (t := 0) rfl (.cons (t := 1) rfl .nil))) tb_ok ap_ok ?_
 refine all2 (by kernel_rfl) ?_ ?_
 ·
  intro vs ls H3 E3 st hE
  have f4 : q1 < 0 := dt st 0
  exact res_ex (by kernel_rfl) (end_same st.inn hE (.inr rfl) (a := .bool true) (by kernel_rfl) (Nat.le_trans (Nat.le_refl _) st.kept.1) rfl)
 ·
  intro vs ls H5 E5 st hE
  have f6 : ¬ (q1 < 0) := df st 0
  have mxms : ms.length ≤ 1048576 := by omega
  obtain ⟨_, hL, mxL⟩ := mergeV_ok hV hx hr hr2
  obtain ⟨p7, e8, r9, n10⟩ := ptr_of st.inn hE 2 0 (by kernel_rfl) (ds := [.flt .f32 x, S]) (by kernel_rfl)
  have op7 : H.next ≤ p7 := Nat.le_trans (Nat.le_refl _) (n10 (Nat.le_of_ble_eq_true rfl))
  obtain ⟨p11, e12, r13, n14⟩ := ptr_of st.inn hE 3 1 (by kernel_rfl) (ds := [.flt .f32 x2, S2]) (by kernel_rfl)
  have op11 : H.next ≤ p11 := Nat.le_trans (Nat.le_refl _) (n14 (Nat.le_of_ble_eq_true rfl))
  have ne15 : Apart p7 p11 := ⟨ptr_ne st.inn hE 2 0 3 1 (by kernel_rfl) (by kernel_rfl) (cs := [.nd 0 (.flt .f32), .nd 1 .one]) (by kernel_rfl) (by decide) e8 e12⟩
  have b16 := eo st hE 22 (.agg [.flt .f32 x2, S2])
  have b17 := eo st hE 23 (.int .i64 q1)
  have b18 := eo st hE 5 (.int .i64 q1)
  have g19 : Grew H H5 := (gk st)
  have g20 : Grew H H5 := Grew.trans (Grew.refl _) g19
  clear st hE vs ls
  obtain ⟨q21, kq21, hq21⟩ : ∃ r : Int, (∀ H9, Grew H5 H9 → APure Try.prog 7 [.agg [.flt .f32 x2, S2], .int .i64 q1] H9 (.int .i64 r)) ∧ (r < 0 ∨ r = q1 - ms2.length) := ⟨_, fun H9 hk => k_szLandMap H9 x2 hx2 ms2 S2 (hS2.grew (Grew.trans g20 hk)) q1 (by omega) (by omega) hmx2, by split <;> omega⟩
  have q22 := q2.app (.cons ⟨_, rfl⟩ .nil : KdsL [KI] [.int .i64 q21])
  refine run_mc (φ := φ0) (pm := pmR 2 [(.call 7 [.agg [nF 2, n1 3], nI 6], nI 7)] 0) 20 (ws := [⟨p7, 0, [nF 0, n1 1], false⟩, ⟨p11, 0, [nF 2, n1 3], false⟩]) (env := [(22, .agg [nF 2, n1 3]), (23, nI 6), (5, nI 6), (2, .ptr 0 0), (3, .ptr 1 0)]) q22 (.cons (wR r9 q22) (.cons (wR r13 q22) .nil)) (sepOk_ro rfl) (.cons (rule_call (args := [.agg [.flt .f32 x2, S2], .int .i64 q1]) (dL q22) (dE q22) (fun H9 hk => kq21 H9 (hk.grew (Nat.le_refl _)))) .nil) (eC q22 (.cons b16 (.cons b17 (.cons b18 (.cons e8 (.cons e12 .nil)))))) tb_ok ap_ok ?_
  refine all2 (by kernel_rfl) ?_ ?_
  ·
   intro vs ls H23 E23 st hE
   have f24 : q21 < 0 := dt st 0
   exact res_ex (by kernel_rfl) (end_same st.inn hE (.inr rfl) (a := .bool true) (by kernel_rfl) (Nat.le_trans g20.next st.kept.1) rfl)
  ·
   intro vs ls H25 E25 st hE
   have f26 : ¬ (q21 < 0) := df st 0
   have mxms2 : ms2.length ≤ 1048576 := by omega
   obtain ⟨_, hL, mxL⟩ := mergeV_ok hV hx hr hr2
   obtain ⟨p27, e28, r29, n30⟩ := ptr_of st.inn hE 6 2 (by kernel_rfl) (ds := [.flt .f32 (some 0), .nilslice]) (by kernel_rfl)
   have op27 : H.next ≤ p27 := Nat.le_trans g20.next (n30 (Nat.le_of_ble_eq_true rfl))
   have ne31 := apn r9 (n30 (Nat.le_of_ble_eq_true rfl))
   have ne32 := apn r13 (n30 (Nat.le_of_ble_eq_true rfl))
   have b33 := eo st hE 28 (.agg [.flt .f32 x, S])
   have b34 := eo st hE 30 (.agg [.flt .f32 x2, S2])
   have b35 := eo st hE 2 (.ptr p7 0)
   have b36 := eo st hE 3 (.ptr p11 0)
   have g37 : Grew H5 H25 := (gk st)
   have g38 : Grew H H25 := Grew.trans g20 g37
   have r39 := g37.at r9
   have r40 := g37.at r13
   clear st hE vs ls
   refine res_kid (free := false) (d := (some 29)) (f := 9) (args := [.tmp 28]) (by kernel_rfl) (R := fun z H' => Grew H25 H' ∧ ∃ S', z = .agg [.flt .f32 x, S'] ∧ SlW H' 9 ms S' ∧ FreshS H25.next S') ?_ ?_
   ·
    show ACalls _ _ [E25 28] _ _
    rw [b33]
    exact w_toLandMap H25 x hx ms hr S (hS.grew g38) mxms
   rintro z H42 ⟨gS41, S41, rfl, sS41, fS41⟩
   refine ⟨gS41, ?_⟩
   have ne43 : ApartL (S41) p7 := fS41.apartL (H25.lt_of_get r39)
   have ne44 : ApartL (S41) p11 := fS41.apartL (H25.lt_of_get r40)
   have ne45 : ApartL (S41) p27 := fS41.apartL (H25.lt_of_get r29)
   have fr46 : FreshS H.next (S41) := fS41.mono g38.next
   have g47 : Grew H H42 := Grew.trans g38 gS41
   have r48 := gS41.at r39
   have r49 := gS41.at r40
   have r50 := gS41.at r29
   have q51 := q22.app (.cons sS41.one .nil : KdsL [.one] [S41])
   refine run_mc (φ := φ0) (pm := pmR 3 [] 0) 20 (ws := [⟨p7, 0, [nF 0, n1 1], false⟩, ⟨p11, 0, [nF 2, n1 3], false⟩, ⟨p27, 0, [.lit (.flt .f32 (some 0)), .lit .nilslice], false⟩]) (env := [(28, .agg [nF 0, n1 1]), (30, .agg [nF 2, n1 3]), (6, .ptr 2 0), (2, .ptr 0 0), (3, .ptr 1 0), (29, .agg [nF 0, n1 8])]) q51 (.cons (wR r48 q51) (.cons (wR r49 q51) (.cons (wR r50 q51) .nil))) (sepOk_ro rfl) .nil (eC q51 (.cons (put_ne rfl b33) (.cons (put_ne rfl b34) (.cons (put_ne rfl e28) (.cons (put_ne rfl b35) (.cons (put_ne rfl b36) (.cons put_same .nil))))))) tb_ok ap_ok ?_
   refine all1 (by kernel_rfl) ?_
   intro vs ls H52 E52 st hE
   have b53 := eo st hE 30 (.agg [.flt .f32 x2, S2])
   have b54 := eo st hE 29 (.agg [.flt .f32 x, S41])
   have b55 := eo st hE 6 (.ptr p27 0)
   have b56 := eo st hE 2 (.ptr p7 0)
   have b57 := eo st hE 3 (.ptr p11 0)
   have g58 : Grew H42 H52 := (gk st)
   have g59 : Grew H H52 := Grew.trans g47 g58
   have r60 := g58.at r48
   have r61 := g58.at r49
   have r62 := g58.at r50
   have s63 := sS41.grew g58
   clear st hE vs ls
   refine res_kid (free := false) (d := (some 31)) (f := 9) (args := [.tmp 30]) (by kernel_rfl) (R := fun z H' => Grew H52 H' ∧ ∃ S', z = .agg [.flt .f32 x2, S'] ∧ SlW H' 9 ms2 S' ∧ FreshS H52.next S') ?_ ?_
   ·
    show ACalls _ _ [E52 30] _ _
    rw [b53]
    exact w_toLandMap H52 x2 hx2 ms2 hr2 S2 (hS2.grew g59) mxms2
   rintro z H65 ⟨gS64, S64, rfl, sS64, fS64⟩
   refine ⟨gS64, ?_⟩
   have ne66 : ApartL (S64) p7 := fS64.apartL (H52.lt_of_get r60)
   have ne67 : ApartL (S64) p11 := fS64.apartL (H52.lt_of_get r61)
   have ne68 : ApartL (S64) p27 := fS64.apartL (H52.lt_of_get r62)
   have ne69 : ApartS (S64) (S41) := fS64.apartS s63.lt
   have fr70 : FreshS H.next (S64) := fS64.mono g59.next
   have g71 : Grew H H65 := Grew.trans g59 gS64
   have r72 := gS64.at r60
   have r73 := gS64.at r61
   have r74 := gS64.at r62
   have s75 := s63.grew gS64
   have q76 := q51.app (.cons sS64.one .nil : KdsL [.one] [S64])
   refine run_mc (φ := φ0) (pm := pmR 3 [] 0) 20 (ws := [⟨p7, 0, [nF 0, n1 1], false⟩, ⟨p11, 0, [nF 2, n1 3], false⟩, ⟨p27, 0, [.lit (.flt .f32 (some 0)), .lit .nilslice], false⟩]) (env := [(30, .agg [nF 2, n1 3]), (29, .agg [nF 0, n1 8]), (6, .ptr 2 0), (2, .ptr 0 0), (3, .ptr 1 0), (31, .agg [nF 2, n1 9])]) q76 (.cons (wR r72 q76) (.cons (wR r73 q76) (.cons (wR r74 q76) .nil))) (sepOk_ro rfl) .nil (eC q76 (.cons (put_ne rfl b53) (.cons (put_ne rfl b54) (.cons (put_ne rfl b55) (.cons (put_ne rfl b56) (.cons (put_ne rfl b57) (.cons put_same .nil))))))) tb_ok ap_ok ?_
   refine all1 (by kernel_rfl) ?_
   intro vs ls H77 E77 st hE
   have b78 := eo st hE 29 (.agg [.flt .f32 x, S41])
   have b79 := eo st hE 31 (.agg [.flt .f32 x2, S64])
   have b80 := eo st hE 6 (.ptr p27 0)
   have b81 := eo st hE 2 (.ptr p7 0)
   have b82 := eo st hE 3 (.ptr p11 0)
   have g83 : Grew H65 H77 := (gk st)
   have g84 : Grew H H77 := Grew.trans g71 g83
   have r85 := g83.at r72
   have r86 := g83.at r73
   have r87 := g83.at r74
   have s88 := s75.grew g83
   have s89 := sS64.grew g83
   clear st hE vs ls
   refine res_kid (free := false) (d := (some 32)) (f := 15) (args := [.tmp 29, .tmp 31]) (by kernel_rfl) (R := fun z H' => Grew H77 H' ∧ ∃ S', z = .tuple [.agg [.flt .f32 y, S'], .int .i64 c] ∧ SlW H' 9 L S' ∧ FreshS H77.next S') ?_ ?_
   ·
    show ACalls _ _ [E77 29, E77 31] _ _
    rw [b78, b79]
    exact (by have h9 := k_spec_MergeMaps H77 x hx ms hr (S41) s88.toL mxms x2 hx2 ms2 hr2 (S64) s89.toL mxms2; rw [hV] at h9; exact h9)
   rintro z H90 ⟨gH90, S91, rfl, sS91, fS91⟩
   refine ⟨gH90, ?_⟩
   have ne92 : ApartL (S91) p7 := fS91.apartL (H77.lt_of_get r85)
   have ne93 : ApartL (S91) p11 := fS91.apartL (H77.lt_of_get r86)
   have ne94 : ApartL (S91) p27 := fS91.apartL (H77.lt_of_get r87)
   have ne95 : ApartS (S91) (S41) := fS91.apartS s88.lt
   have ne96 : ApartS (S91) (S64) := fS91.apartS s89.lt
   have fr97 : FreshS H.next (S91) := fS91.mono g84.next
   have g98 : Grew H H90 := Grew.trans g84 gH90
   have r99 := gH90.at r85
   have r100 := gH90.at r86
   have r101 := gH90.at r87
   have s102 := s88.grew gH90
   have s103 := s89.grew gH90
   have q104 := q76.app (.cons sS91.one .nil : KdsL [.one] [S91])
   refine run_mc (φ := φ0) (pm := pmR 2 [] 0) 20 (ws := [⟨p7, 0, [nF 0, n1 1], false⟩, ⟨p11, 0, [nF 2, n1 3], false⟩, ⟨p27, 0, [.lit (.flt .f32 (some 0)), .lit .nilslice], true⟩]) (env := [(29, .agg [nF 0, n1 8]), (31, .agg [nF 2, n1 9]), (6, .ptr 2 0), (2, .ptr 0 0), (3, .ptr 1 0), (32, .tup [.agg [nF 4, n1 10], nI 5])]) q104 (.cons (wR r99 q104) (.cons (wR r100 q104) (.cons (wO r101 q104) .nil))) (sepD (by repeat (first | exact .nil | refine .cons (by first | assumption | exact Apart.symm (by assumption)) ?_))) .nil (eC q104 (.cons (put_ne rfl b78) (.cons (put_ne rfl b79) (.cons (put_ne rfl b80) (.cons (put_ne rfl b81) (.cons (put_ne rfl b82) (.cons put_same .nil))))))) tb_ok ap_ok ?_
   refine all1 (by kernel_rfl) ?_
   intro vs ls H105 E105 st hE
   have r106 : H105.get p27 = some (.row [.flt .f32 y, S91] true) := row_whole st.inn 2 (l := p27) (b := 0) rfl (by kernel_rfl)
   have b107 := eo st hE 35 (.agg [.flt .f32 x, S])
   have b108 := eo st hE 3 (.ptr p11 0)
   have b109 := eo st hE 6 (.ptr p27 0)
   have b110 := eo st hE 7 (.int .i64 c)
   have b111 := eo st hE 2 (.ptr p7 0)
   have g113 : Grew H H105 := grew_own g98 st.inn.kept ⟨op27, trivial⟩
   have r114 := kept_at st.inn.kept r99 ⟨by first | assumption | exact Apart.symm (by assumption), trivial⟩
   have r115 := kept_at st.inn.kept r100 ⟨by first | assumption | exact Apart.symm (by assumption), trivial⟩
   have s116 := s102.keep st.inn.kept ⟨by assumption, trivial⟩
   have s117 := s103.keep st.inn.kept ⟨by assumption, trivial⟩
   have s118 := sS91.keep st.inn.kept ⟨by assumption, trivial⟩
   clear st hE vs ls
   refine res_call (d := (some 36)) (f := 9) (args := [.tmp 35]) (by kernel_rfl) (R := fun z H' => Grew H105 H' ∧ ∃ S', z = .agg [.flt .f32 x, S'] ∧ SlW H' 9 ms S' ∧ FreshS H105.next S') ?_ ?_
   ·
    show ACalls _ _ [E105 35] _ _
    rw [b107]
    exact w_toLandMap H105 x hx ms hr S (hS.grew g113) mxms
   rintro z H120 ⟨gS119, S119, rfl, sS119, fS119⟩
   have ne121 : ApartL (S119) p7 := fS119.apartL (H105.lt_of_get r114)
   have ne122 : ApartL (S119) p11 := fS119.apartL (H105.lt_of_get r115)
   have ne123 : ApartL (S119) p27 := fS119.apartL (H105.lt_of_get r106)
   have ne124 : ApartS (S119) (S41) := fS119.apartS s116.lt
   have ne125 : ApartS (S119) (S64) := fS119.apartS s117.lt
   have ne126 : ApartS (S119) (S91) := fS119.apartS s118.lt
   have fr127 : FreshS H.next (S119) := fS119.mono g113.next
   have g128 : Grew H H120 := Grew.trans g113 gS119
   have r129 := gS119.at r114
   have r130 := gS119.at r115
   have r131 := gS119.at r106
   have s132 := s116.grew gS119
   have s133 := s117.grew gS119
   have s134 := s118.grew gS119
   have q135 := q104.app (.cons sS119.one .nil : KdsL [.one] [S119])
   refine run_mc (φ := φ0) (pm := pmR 2 [] 0) 20 (ws := [⟨p7, 0, [nF 0, n1 1], false⟩, ⟨p11, 0, [nF 2, n1 3], false⟩, ⟨p27, 0, [nF 4, n1 10], true⟩]) (env := [(35, .agg [nF 0, n1 1]), (3, .ptr 1 0), (6, .ptr 2 0), (7, nI 5), (2, .ptr 0 0), (36, .agg [nF 0, n1 11])]) q135 (.cons (wR r129 q135) (.cons (wR r130 q135) (.cons (wO r131 q135) .nil))) (sepD (by repeat (first | exact .nil | refine .cons (by first | assumption | exact Apart.symm (by assumption)) ?_))) .nil (eC q135 (.cons (put_ne rfl b107) (.cons (put_ne rfl b108) (.cons (put_ne rfl b109) (.cons (put_ne rfl b110) (.cons (put_ne rfl b111) (.cons put_same .nil))))))) tb_ok ap_ok ?_
   refine all1 (by kernel_rfl) ?_
   intro vs ls H136 E136 st hE
   obtain ⟨p137, e138, r139, n140⟩ := ptr_of st.inn hE 8 3 (by kernel_rfl) (ds := [.flt .f32 x, S119]) (by kernel_rfl)
   have op137 : H.next ≤ p137 := Nat.le_trans g128.next (n140 (Nat.le_of_ble_eq_true rfl))
   have ne141 := apn r129 (n140 (Nat.le_of_ble_eq_true rfl))
   have ne142 := apn r130 (n140 (Nat.le_of_ble_eq_true rfl))
   have ne143 := apn r131 (n140 (Nat.le_of_ble_eq_true rfl))
   have ne144 : ApartL (S41) p137 := s132.apart_new (n140 (Nat.le_of_ble_eq_true rfl))
   have ne145 : ApartL (S64) p137 := s133.apart_new (n140 (Nat.le_of_ble_eq_true rfl))
   have ne146 : ApartL (S91) p137 := s134.apart_new (n140 (Nat.le_of_ble_eq_true rfl))
   have ne147 : ApartL (S119) p137 := sS119.apart_new (n140 (Nat.le_of_ble_eq_true rfl))
   have b148 := eo st hE 37 (.agg [.flt .f32 x2, S2])
   have b149 := eo st hE 6 (.ptr p27 0)
   have b150 := eo st hE 7 (.int .i64 c)
   have b151 := eo st hE 2 (.ptr p7 0)
   have b152 := eo st hE 3 (.ptr p11 0)
   have g153 : Grew H120 H136 := (gk st)
   have g154 : Grew H H136 := Grew.trans g128 g153
   have r155 := g153.at r129
   have r156 := g153.at r130
   have r157 := g153.at r131
   have s158 := s132.grew g153
   have s159 := s133.grew g153
   have s160 := s134.grew g153
   have s161 := sS119.grew g153
   clear st hE vs ls
   refine res_call (d := (some 38)) (f := 9) (args := [.tmp 37]) (by kernel_rfl) (R := fun z H' => Grew H136 H' ∧ ∃ S', z = .agg [.flt .f32 x2, S'] ∧ SlW H' 9 ms2 S' ∧ FreshS H136.next S') ?_ ?_
   ·
    show ACalls _ _ [E136 37] _ _
    rw [b148]
    exact w_toLandMap H136 x2 hx2 ms2 hr2 S2 (hS2.grew g154) mxms2
   rintro z H163 ⟨gS162, S162, rfl, sS162, fS162⟩
   have ne164 : ApartL (S162) p7 := fS162.apartL (H136.lt_of_get r155)
   have ne165 : ApartL (S162) p11 := fS162.apartL (H136.lt_of_get r156)
   have ne166 : ApartL (S162) p137 := fS162.apartL (H136.lt_of_get r139)
   have ne167 : ApartL (S162) p27 := fS162.apartL (H136.lt_of_get r157)
   have ne168 : ApartS (S162) (S41) := fS162.apartS s158.lt
   have ne169 : ApartS (S162) (S64) := fS162.apartS s159.lt
   have ne170 : ApartS (S162) (S91) := fS162.apartS s160.lt
   have ne171 : ApartS (S162) (S119) := fS162.apartS s161.lt
   have fr172 : FreshS H.next (S162) := fS162.mono g154.next
   have g173 : Grew H H163 := Grew.trans g154 gS162
   have r174 := gS162.at r155
   have r175 := gS162.at r156
   have r176 := gS162.at r139
   have r177 := gS162.at r157
   have s178 := s158.grew gS162
   have s179 := s159.grew gS162
   have s180 := s160.grew gS162
   have s181 := s161.grew gS162
   have q182 := q135.app (.cons sS162.one .nil : KdsL [.one] [S162])
   refine run_mc (φ := φ0) (pm := pmR 3 [] 0) 20 (ws := [⟨p7, 0, [nF 0, n1 1], false⟩, ⟨p11, 0, [nF 2, n1 3], false⟩, ⟨p137, 0, [nF 0, n1 11], false⟩, ⟨p27, 0, [nF 4, n1 10], true⟩]) (env := [(37, .agg [nF 2, n1 3]), (8, .ptr 2 0), (6, .ptr 3 0), (7, nI 5), (2, .ptr 0 0), (3, .ptr 1 0), (38, .agg [nF 2, n1 12])]) q182 (.cons (wR r174 q182) (.cons (wR r175 q182) (.cons (wR r176 q182) (.cons (wO r177 q182) .nil)))) (sepD (by repeat (first | exact .nil | refine .cons (by first | assumption | exact Apart.symm (by assumption)) ?_))) .nil (eC q182 (.cons (put_ne rfl b148) (.cons (put_ne rfl e138) (.cons (put_ne rfl b149) (.cons (put_ne rfl b150) (.cons (put_ne rfl b151) (.cons (put_ne rfl b152) (.cons put_same .nil)))))))) tb_ok ap_ok ?_
   refine all1 (by kernel_rfl) ?_
   intro vs ls H183 E183 st hE
   obtain ⟨p184, e185, r186, n187⟩ := ptr_of st.inn hE 9 4 (by kernel_rfl) (ds := [.flt .f32 x2, S162]) (by kernel_rfl)
   have op184 : H.next ≤ p184 := Nat.le_trans g173.next (n187 (Nat.le_of_ble_eq_true rfl))
   have ne188 := apn r174 (n187 (Nat.le_of_ble_eq_true rfl))
   have ne189 := apn r175 (n187 (Nat.le_of_ble_eq_true rfl))
   have ne190 := apn r176 (n187 (Nat.le_of_ble_eq_true rfl))
   have ne191 := apn r177 (n187 (Nat.le_of_ble_eq_true rfl))
   have ne192 : ApartL (S41) p184 := s178.apart_new (n187 (Nat.le_of_ble_eq_true rfl))
   have ne193 : ApartL (S64) p184 := s179.apart_new (n187 (Nat.le_of_ble_eq_true rfl))
   have ne194 : ApartL (S91) p184 := s180.apart_new (n187 (Nat.le_of_ble_eq_true rfl))
   have ne195 : ApartL (S119) p184 := s181.apart_new (n187 (Nat.le_of_ble_eq_true rfl))
   have ne196 : ApartL (S162) p184 := sS162.apart_new (n187 (Nat.le_of_ble_eq_true rfl))
   have b197 := eo st hE 40 (.agg [.flt .f32 x, S119])
   have b198 := eo st hE 41 (.agg [.flt .f32 x2, S162])
   have b199 := eo st hE 6 (.ptr p27 0)
   have b200 := eo st hE 7 (.int .i64 c)
   have b201 := eo st hE 8 (.ptr p137 0)
   have b202 := eo st hE 2 (.ptr p7 0)
   have b203 := eo st hE 3 (.ptr p11 0)
   have g204 : Grew H163 H183 := (gk st)
   have g205 : Grew H H183 := Grew.trans g173 g204
   have r206 := g204.at r174
   have r207 := g204.at r175
   have r208 := g204.at r176
   have r209 := g204.at r177
   have s210 := s178.grew g204
   have s211 := s179.grew g204
   have s212 := s180.grew g204
   have s213 := s181.grew g204
   have s214 := sS162.grew g204
   clear st hE vs ls
   refine res_call (d := (some 42)) (f := 16) (args := [.tmp 40, .tmp 41]) (by kernel_rfl) (R := fun z H' => Grew H183 H' ∧ ∃ S', z = .tuple [.agg [.flt .f32 y, S'], .int .i64 c] ∧ SlW H' 9 L S' ∧ FreshS H183.next S') ?_ ?_
   ·
    show ACalls _ _ [E183 40, E183 41] _ _
    rw [b197, b198]
    exact (by have h9 := k_impl_MergeMaps H183 x hx ms hr (S119) s213.toL mxms x2 hx2 ms2 hr2 (S162) s214.toL mxms2; rw [hV] at h9; exact h9)
   rintro z H215 ⟨gH215, S216, rfl, sS216, fS216⟩
   have ne217 : ApartL (S216) p7 := fS216.apartL (H183.lt_of_get r206)
   have ne218 : ApartL (S216) p11 := fS216.apartL (H183.lt_of_get r207)
   have ne219 : ApartL (S216) p137 := fS216.apartL (H183.lt_of_get r208)
   have ne220 : ApartL (S216) p184 := fS216.apartL (H183.lt_of_get r186)
   have ne221 : ApartL (S216) p27 := fS216.apartL (H183.lt_of_get r209)
   have ne222 : ApartS (S216) (S41) := fS216.apartS s210.lt
   have ne223 : ApartS (S216) (S64) := fS216.apartS s211.lt
   have ne224 : ApartS (S216) (S91) := fS216.apartS s212.lt
   have ne225 : ApartS (S216) (S119) := fS216.apartS s213.lt
   have ne226 : ApartS (S216) (S162) := fS216.apartS s214.lt
   have fr227 : FreshS H.next (S216) := fS216.mono g205.next
   have g228 : Grew H H215 := Grew.trans g205 gH215
   have r229 := gH215.at r206
   have r230 := gH215.at r207
   have r231 := gH215.at r208
   have r232 := gH215.at r186
   have r233 := gH215.at r209
   have s234 := s210.grew gH215
   have s235 := s211.grew gH215
   have s236 := s212.grew gH215
   have s237 := s213.grew gH215
   have s238 := s214.grew gH215
   have q239 := q182.app (.cons sS216.one .nil : KdsL [.one] [S216])
   refine run_mc (φ := φ0) (pm := pmR 4 [(.call 12 [.agg [nF 4, n1 13], .agg [nF 4, n1 10]], .lit (.bool true))] 0) 20 (ws := [⟨p7, 0, [nF 0, n1 1], false⟩, ⟨p11, 0, [nF 2, n1 3], false⟩, ⟨p137, 0, [nF 0, n1 11], false⟩, ⟨p184, 0, [nF 2, n1 12], false⟩, ⟨p27, 0, [nF 4, n1 10], true⟩]) (env := [(40, .agg [nF 0, n1 11]), (41, .agg [nF 2, n1 12]), (6, .ptr 4 0), (7, nI 5), (8, .ptr 2 0), (2, .ptr 0 0), (9, .ptr 3 0), (3, .ptr 1 0), (42, .tup [.agg [nF 4, n1 13], nI 5])]) q239 (.cons (wR r229 q239) (.cons (wR r230 q239) (.cons (wR r231 q239) (.cons (wR r232 q239) (.cons (wO r233 q239) .nil))))) (sepD (by repeat (first | exact .nil | refine .cons (by first | assumption | exact Apart.symm (by assumption)) ?_))) (.cons (rule_call (args := [.agg [.flt .f32 y, S216], .agg [.flt .f32 y, S91]]) (r := .bool true) (dL q239) (dE q239) (fun H9 hk => k_eqLandMap H9 y hy L hL _ _ ((sS216.keep hk ⟨by assumption, trivial⟩)).toL ((s236.keep hk ⟨by assumption, trivial⟩)).toL (mx40 mxL))) .nil) (eC q239 (.cons (put_ne rfl b197) (.cons (put_ne rfl b198) (.cons (put_ne rfl b199) (.cons (put_ne rfl b200) (.cons (put_ne rfl b201) (.cons (put_ne rfl b202) (.cons (put_ne rfl e185) (.cons (put_ne rfl b203) (.cons put_same .nil)))))))))) tb_ok ap_ok ?_
   refine all1 (by kernel_rfl) ?_
   intro vs ls H240 E240 st hE
   obtain ⟨p241, e242, r243, n244⟩ := ptr_of st.inn hE 10 5 (by kernel_rfl) (ds := [.flt .f32 y, S216]) (by kernel_rfl)
   have op241 : H.next ≤ p241 := Nat.le_trans g228.next (n244 (Nat.le_of_ble_eq_true rfl))
   have ne245 := apn r229 (n244 (Nat.le_of_ble_eq_true rfl))
   have ne246 := apn r230 (n244 (Nat.le_of_ble_eq_true rfl))
   have ne247 := apn r231 (n244 (Nat.le_of_ble_eq_true rfl))
   have ne248 := apn r232 (n244 (Nat.le_of_ble_eq_true rfl))
   have ne249 := apn r233 (n244 (Nat.le_of_ble_eq_true rfl))
   have ne250 : ApartL (S41) p241 := s234.apart_new (n244 (Nat.le_of_ble_eq_true rfl))
   have ne251 : ApartL (S64) p241 := s235.apart_new (n244 (Nat.le_of_ble_eq_true rfl))
   have ne252 : ApartL (S91) p241 := s236.apart_new (n244 (Nat.le_of_ble_eq_true rfl))
   have ne253 : ApartL (S119) p241 := s237.apart_new (n244 (Nat.le_of_ble_eq_true rfl))
   have ne254 : ApartL (S162) p241 := s238.apart_new (n244 (Nat.le_of_ble_eq_true rfl))
   have ne255 : ApartL (S216) p241 := sS216.apart_new (n244 (Nat.le_of_ble_eq_true rfl))
   have b256 := eo st hE 55 (.agg [.flt .f32 x, S])
   have b257 := eo st hE 54 (.agg [.flt .f32 x, S119])
   have b258 := eo st hE 9 (.ptr p184 0)
   have b259 := eo st hE 3 (.ptr p11 0)
   have b260 := eo st hE 8 (.ptr p137 0)
   have b261 := eo st hE 6 (.ptr p27 0)
   have b262 := eo st hE 11 (.int .i64 c)
   have b263 := eo st hE 7 (.int .i64 c)
   have b264 := eo st hE 2 (.ptr p7 0)
   have g265 : Grew H215 H240 := (gk st)
   have g266 : Grew H H240 := Grew.trans g228 g265
   have r267 := g265.at r229
   have r268 := g265.at r230
   have r269 := g265.at r231
   have r270 := g265.at r232
   have r271 := g265.at r233
   have s272 := s234.grew g265
   have s273 := s235.grew g265
   have s274 := s236.grew g265
   have s275 := s237.grew g265
   have s276 := s238.grew g265
   have s277 := sS216.grew g265
   clear st hE vs ls
   refine res_kid (free := false) (d := (some 56)) (f := 9) (args := [.tmp 55]) (by kernel_rfl) (R := fun z H' => Grew H240 H' ∧ ∃ S', z = .agg [.flt .f32 x, S'] ∧ SlW H' 9 ms S' ∧ FreshS H240.next S') ?_ ?_
   ·
    show ACalls _ _ [E240 55] _ _
    rw [b256]
    exact w_toLandMap H240 x hx ms hr S (hS.grew g266) mxms
   rintro z H279 ⟨gS278, S278, rfl, sS278, fS278⟩
   refine ⟨gS278, ?_⟩
   have ne280 : ApartL (S278) p7 := fS278.apartL (H240.lt_of_get r267)
   have ne281 : ApartL (S278) p11 := fS278.apartL (H240.lt_of_get r268)
   have ne282 : ApartL (S278) p137 := fS278.apartL (H240.lt_of_get r269)
   have ne283 : ApartL (S278) p184 := fS278.apartL (H240.lt_of_get r270)
   have ne284 : ApartL (S278) p241 := fS278.apartL (H240.lt_of_get r243)
   have ne285 : ApartL (S278) p27 := fS278.apartL (H240.lt_of_get r271)
   have ne286 : ApartS (S278) (S41) := fS278.apartS s272.lt
   have ne287 : ApartS (S278) (S64) := fS278.apartS s273.lt
   have ne288 : ApartS (S278) (S91) := fS278.apartS s274.lt
   have ne289 : ApartS (S278) (S119) := fS278.apartS s275.lt
   have ne290 : ApartS (S278) (S162) := fS278.apartS s276.lt
   have ne291 : ApartS (S278) (S216) := fS278.apartS s277.lt
   have fr292 : FreshS H.next (S278) := fS278.mono g266.next
   have g293 : Grew H H279 := Grew.trans g266 gS278
   have r294 := gS278.at r267
   have r295 := gS278.at r268
   have r296 := gS278.at r269
   have r297 := gS278.at r270
   have r298 := gS278.at r243
   have r299 := gS278.at r271
   have s300 := s272.grew gS278
   have s301 := s273.grew gS278
   have s302 := s274.grew gS278
   have s303 := s275.grew gS278
   have s304 := s276.grew gS278
   have s305 := s277.grew gS278
   have q306 := q239.app (.cons sS278.one .nil : KdsL [.one] [S278])
   refine run_mc (φ := φ0) (pm := pmR 5 [(.call 12 [.agg [nF 0, n1 11], .agg [nF 0, n1 14]], .lit (.bool true))] 0) 20 (ws := [⟨p7, 0, [nF 0, n1 1], false⟩, ⟨p11, 0, [nF 2, n1 3], false⟩, ⟨p137, 0, [nF 0, n1 11], false⟩, ⟨p184, 0, [nF 2, n1 12], false⟩, ⟨p241, 0, [nF 4, n1 13], false⟩, ⟨p27, 0, [nF 4, n1 10], true⟩]) (env := [(55, .agg [nF 0, n1 1]), (54, .agg [nF 0, n1 11]), (9, .ptr 3 0), (3, .ptr 1 0), (8, .ptr 2 0), (10, .ptr 4 0), (6, .ptr 5 0), (11, nI 5), (7, nI 5), (2, .ptr 0 0), (56, .agg [nF 0, n1 14])]) q306 (.cons (wR r294 q306) (.cons (wR r295 q306) (.cons (wR r296 q306) (.cons (wR r297 q306) (.cons (wR r298 q306) (.cons (wO r299 q306) .nil)))))) (sepD (by repeat (first | exact .nil | refine .cons (by first | assumption | exact Apart.symm (by assumption)) ?_))) (.cons (rule_call (args := [.agg [.flt .f32 x, S119], .agg [.flt .f32 x, S278]]) (r := .bool true) (dL q306) (dE q306) (fun H9 hk => k_eqLandMap H9 x hx ms hr _ _ ((s303.keep hk ⟨by assumption, trivial⟩)).toL ((sS278.keep hk ⟨by assumption, trivial⟩)).toL (mx40 mxms))) .nil) (eC q306 (.cons (put_ne rfl b256) (.cons (put_ne rfl b257) (.cons (put_ne rfl b258) (.cons (put_ne rfl b259) (.cons (put_ne rfl b260) (.cons (put_ne rfl e242) (.cons (put_ne rfl b261) (.cons (put_ne rfl b262) (.cons (put_ne rfl b263) (.cons (put_ne rfl b264) (.cons put_same .nil)))))))))))) tb_ok ap_ok ?_
   refine all1 (by kernel_rfl) ?_
   intro vs ls H307 E307 st hE
   have b308 := eo st hE 60 (.agg [.flt .f32 x2, S2])
   have b309 := eo st hE 59 (.agg [.flt .f32 x2, S162])
   have b310 := eo st hE 8 (.ptr p137 0)
   have b311 := eo st hE 9 (.ptr p184 0)
   have b312 := eo st hE 10 (.ptr p241 0)
   have b313 := eo st hE 6 (.ptr p27 0)
   have b314 := eo st hE 11 (.int .i64 c)
   have b315 := eo st hE 7 (.int .i64 c)
   have b316 := eo st hE 2 (.ptr p7 0)
   have b317 := eo st hE 3 (.ptr p11 0)
   have g318 : Grew H279 H307 := (gk st)
   have g319 : Grew H H307 := Grew.trans g293 g318
   have r320 := g318.at r294
   have r321 := g318.at r295
   have r322 := g318.at r296
   have r323 := g318.at r297
   have r324 := g318.at r298
   have r325 := g318.at r299
   have s326 := s300.grew g318
   have s327 := s301.grew g318
   have s328 := s302.grew g318
   have s329 := s303.grew g318
   have s330 := s304.grew g318
   have s331 := s305.grew g318
   have s332 := sS278.grew g318
   clear st hE vs ls
   refine res_kid (free := false) (d := (some 61)) (f := 9) (args := [.tmp 60]) (by kernel_rfl) (R := fun z H' => Grew H307 H' ∧ ∃ S', z = .agg [.flt .f32 x2, S'] ∧ SlW H' 9 ms2 S' ∧ FreshS H307.next S') ?_ ?_
   ·
    show ACalls _ _ [E307 60] _ _
    rw [b308]
    exact w_toLandMap H307 x2 hx2 ms2 hr2 S2 (hS2.grew g319) mxms2
   rintro z H334 ⟨gS333, S333, rfl, sS333, fS333⟩
   refine ⟨gS333, ?_⟩
   have ne335 : ApartL (S333) p7 := fS333.apartL (H307.lt_of_get r320)
   have ne336 : ApartL (S333) p11 := fS333.apartL (H307.lt_of_get r321)
   have ne337 : ApartL (S333) p137 := fS333.apartL (H307.lt_of_get r322)
   have ne338 : ApartL (S333) p184 := fS333.apartL (H307.lt_of_get r323)
   have ne339 : ApartL (S333) p241 := fS333.apartL (H307.lt_of_get r324)
   have ne340 : ApartL (S333) p27 := fS333.apartL (H307.lt_of_get r325)
   have ne341 : ApartS (S333) (S41) := fS333.apartS s326.lt
   have ne342 : ApartS (S333) (S64) := fS333.apartS s327.lt
   have ne343 : ApartS (S333) (S91) := fS333.apartS s328.lt
   have ne344 : ApartS (S333) (S119) := fS333.apartS s329.lt
   have ne345 : ApartS (S333) (S162) := fS333.apartS s330.lt
   have ne346 : ApartS (S333) (S216) := fS333.apartS s331.lt
   have ne347 : ApartS (S333) (S278) := fS333.apartS s332.lt
   have fr348 : FreshS H.next (S333) := fS333.mono g319.next
   have g349 : Grew H H334 := Grew.trans g319 gS333
   have r350 := gS333.at r320
   have r351 := gS333.at r321
   have r352 := gS333.at r322
   have r353 := gS333.at r323
   have r354 := gS333.at r324
   have r355 := gS333.at r325
   have s356 := s326.grew gS333
   have s357 := s327.grew gS333
   have s358 := s328.grew gS333
   have s359 := s329.grew gS333
   have s360 := s330.grew gS333
   have s361 := s331.grew gS333
   have s362 := s332.grew gS333
   have q363 := q306.app (.cons sS333.one .nil : KdsL [.one] [S333])
   refine run_mc (φ := φ0) (pm := pmR 5 [(.call 12 [.agg [nF 2, n1 12], .agg [nF 2, n1 15]], .lit (.bool true))] 0) 20 (ws := [⟨p7, 0, [nF 0, n1 1], false⟩, ⟨p11, 0, [nF 2, n1 3], false⟩, ⟨p137, 0, [nF 0, n1 11], false⟩, ⟨p184, 0, [nF 2, n1 12], false⟩, ⟨p241, 0, [nF 4, n1 13], false⟩, ⟨p27, 0, [nF 4, n1 10], true⟩]) (env := [(60, .agg [nF 2, n1 3]), (59, .agg [nF 2, n1 12]), (8, .ptr 2 0), (9, .ptr 3 0), (10, .ptr 4 0), (6, .ptr 5 0), (11, nI 5), (7, nI 5), (2, .ptr 0 0), (3, .ptr 1 0), (61, .agg [nF 2, n1 15])]) q363 (.cons (wR r350 q363) (.cons (wR r351 q363) (.cons (wR r352 q363) (.cons (wR r353 q363) (.cons (wR r354 q363) (.cons (wO r355 q363) .nil)))))) (sepD (by repeat (first | exact .nil | refine .cons (by first | assumption | exact Apart.symm (by assumption)) ?_))) (.cons (rule_call (args := [.agg [.flt .f32 x2, S162], .agg [.flt .f32 x2, S333]]) (r := .bool true) (dL q363) (dE q363) (fun H9 hk => k_eqLandMap H9 x2 hx2 ms2 hr2 _ _ ((s360.keep hk ⟨by assumption, trivial⟩)).toL ((sS333.keep hk ⟨by assumption, trivial⟩)).toL (mx40 mxms2))) .nil) (eC q363 (.cons (put_ne rfl b308) (.cons (put_ne rfl b309) (.cons (put_ne rfl b310) (.cons (put_ne rfl b311) (.cons (put_ne rfl b312) (.cons (put_ne rfl b313) (.cons (put_ne rfl b314) (.cons (put_ne rfl b315) (.cons (put_ne rfl b316) (.cons (put_ne rfl b317) (.cons put_same .nil)))))))))))) tb_ok ap_ok ?_
   refine all1 (by kernel_rfl) ?_
   intro vs ls H364 E364 st hE
   have b365 := eo st hE 64 (.agg [.flt .f32 x, S119])
   have b366 := eo st hE 65 (.int .i64 1)
   have b367 := eo st hE 9 (.ptr p184 0)
   have b368 := eo st hE 12 (.int .i64 1)
   have b369 := eo st hE 10 (.ptr p241 0)
   have b370 := eo st hE 6 (.ptr p27 0)
   have b371 := eo st hE 11 (.int .i64 c)
   have b372 := eo st hE 7 (.int .i64 c)
   have b373 := eo st hE 2 (.ptr p7 0)
   have b374 := eo st hE 3 (.ptr p11 0)
   have g375 : Grew H334 H364 := (gk st)
   have g376 : Grew H H364 := Grew.trans g349 g375
   have r377 := g375.at r350
   have r378 := g375.at r351
   have r380 := g375.at r353
   have r381 := g375.at r354
   have r382 := g375.at r355
   have s383 := s356.grew g375
   have s384 := s357.grew g375
   have s385 := s358.grew g375
   have s386 := s359.grew g375
   have s387 := s360.grew g375
   have s388 := s361.grew g375
   have s389 := s362.grew g375
   have s390 := sS333.grew g375
   clear st hE vs ls
   refine res_call (d := (some 66)) (f := 13) (args := [.tmp 64, .tmp 65]) (by kernel_rfl) (R := fun z H' => z = .int .i64 (1 + 9 * (ms.length : Int)) ∧ OnlyS S119 H364 H' ∧ SlW H' 9 (mksMark 1 ms.length) S119) ?_ ?_
   ·
    show ACalls _ _ [E364 64, E364 65] _ _
    rw [b365, b366]
    exact w_markLandMap H364 x hx ms hr S119 s386 1 (by decide) (by decide) mxms
   rintro z H391 ⟨rfl, oH391, nH391⟩
   have g392 : Grew H H391 := OnlyS.own g376 fr127 oH391
   have r393 := oH391.at r377 (by assumption)
   have r394 := oH391.at r378 (by assumption)
   have r395 := oH391.at r380 (by assumption)
   have r396 := oH391.at r381 (by assumption)
   have r397 := oH391.at r382 (by assumption)
   have s398 := s383.only oH391 (by first | assumption | exact ApartS.symm (by assumption))
   have s399 := s384.only oH391 (by first | assumption | exact ApartS.symm (by assumption))
   have s400 := s385.only oH391 (by first | assumption | exact ApartS.symm (by assumption))
   have s401 := s387.only oH391 (by first | assumption | exact ApartS.symm (by assumption))
   have s402 := s388.only oH391 (by first | assumption | exact ApartS.symm (by assumption))
   have s403 := s389.only oH391 (by first | assumption | exact ApartS.symm (by assumption))
   have s404 := s390.only oH391 (by first | assumption | exact ApartS.symm (by assumption))
   have q405 := q363.app (.cons ⟨_, rfl⟩ .nil : KdsL [KI] [.int .i64 (1 + 9 * (ms.length : Int))])
   refine run_mc (φ := φ0) (pm := pmR 4 [] 0) 20 (ws := [⟨p7, 0, [nF 0, n1 1], false⟩, ⟨p11, 0, [nF 2, n1 3], false⟩, ⟨p184, 0, [nF 2, n1 12], false⟩, ⟨p241, 0, [nF 4, n1 13], false⟩, ⟨p27, 0, [nF 4, n1 10], true⟩]) (env := [(64, .agg [nF 0, n1 11]), (65, .lit (.int .i64 1)), (9, .ptr 2 0), (12, .lit (.int .i64 1)), (10, .ptr 3 0), (6, .ptr 4 0), (11, nI 5), (7, nI 5), (2, .ptr 0 0), (3, .ptr 1 0), (66, nI 16)]) q405 (.cons (wR r393 q405) (.cons (wR r394 q405) (.cons (wR r395 q405) (.cons (wR r396 q405) (.cons (wO r397 q405) .nil))))) (sepD (by repeat (first | exact .nil | refine .cons (by first | assumption | exact Apart.symm (by assumption)) ?_))) .nil (eC q405 (.cons (put_ne rfl b365) (.cons (put_ne rfl b366) (.cons (put_ne rfl b367) (.cons (put_ne rfl b368) (.cons (put_ne rfl b369) (.cons (put_ne rfl b370) (.cons (put_ne rfl b371) (.cons (put_ne rfl b372) (.cons (put_ne rfl b373) (.cons (put_ne rfl b374) (.cons put_same .nil)))))))))))) tb_ok ap_ok ?_
   refine all1 (by kernel_rfl) ?_
   intro vs ls H406 E406 st hE
   have b407 := eo st hE 67 (.agg [.flt .f32 x2, S162])
   have b408 := eo st hE 68 (.int .i64 (1 + 9 * (ms.length : Int)))
   have b409 := eo st hE 12 (.int .i64 (1 + 9 * (ms.length : Int)))
   have b410 := eo st hE 10 (.ptr p241 0)
   have b411 := eo st hE 6 (.ptr p27 0)
   have b412 := eo st hE 11 (.int .i64 c)
   have b413 := eo st hE 7 (.int .i64 c)
   have b414 := eo st hE 2 (.ptr p7 0)
   have b415 := eo st hE 3 (.ptr p11 0)
   have g416 : Grew H391 H406 := (gk st)
   have g417 : Grew H H406 := Grew.trans g392 g416
   have r418 := g416.at r393
   have r419 := g416.at r394
   have r421 := g416.at r396
   have r422 := g416.at r397
   have s423 := s398.grew g416
   have s424 := s399.grew g416
   have s425 := s400.grew g416
   have s426 := nH391.grew g416
   have s427 := s401.grew g416
   have s428 := s402.grew g416
   have s429 := s403.grew g416
   have s430 := s404.grew g416
   clear st hE vs ls
   refine res_call (d := (some 69)) (f := 13) (args := [.tmp 67, .tmp 68]) (by kernel_rfl) (R := fun z H' => z = .int .i64 ((1 + 9 * (ms.length : Int)) + 9 * (ms2.length : Int)) ∧ OnlyS S162 H406 H' ∧ SlW H' 9 (mksMark (1 + 9 * (ms.length : Int)) ms2.length) S162) ?_ ?_
   ·
    show ACalls _ _ [E406 67, E406 68] _ _
    rw [b407, b408]
    exact w_markLandMap H406 x2 hx2 ms2 hr2 S162 s427 (1 + 9 * (ms.length : Int)) (by omega) (by omega) mxms2
   rintro z H431 ⟨rfl, oH431, nH431⟩
   have g432 : Grew H H431 := OnlyS.own g417 fr172 oH431
   have r433 := oH431.at r418 (by assumption)
   have r434 := oH431.at r419 (by assumption)
   have r435 := oH431.at r421 (by assumption)
   have r436 := oH431.at r422 (by assumption)
   have s437 := s423.only oH431 (by first | assumption | exact ApartS.symm (by assumption))
   have s438 := s424.only oH431 (by first | assumption | exact ApartS.symm (by assumption))
   have s439 := s425.only oH431 (by first | assumption | exact ApartS.symm (by assumption))
   have s440 := s426.only oH431 (by first | assumption | exact ApartS.symm (by assumption))
   have s441 := s428.only oH431 (by first | assumption | exact ApartS.symm (by assumption))
   have s442 := s429.only oH431 (by first | assumption | exact ApartS.symm (by assumption))
   have s443 := s430.only oH431 (by first | assumption | exact ApartS.symm (by assumption))
   have q444 := q405.app (.cons ⟨_, rfl⟩ .nil : KdsL [KI] [.int .i64 ((1 + 9 * (ms.length : Int)) + 9 * (ms2.length : Int))])
   refine run_mc (φ := φ0) (pm := pmR 3 [(.call 12 [.agg [nF 4, n1 13], .agg [nF 4, n1 10]], .lit (.bool true))] 0) 20 (ws := [⟨p7, 0, [nF 0, n1 1], false⟩, ⟨p11, 0, [nF 2, n1 3], false⟩, ⟨p241, 0, [nF 4, n1 13], false⟩, ⟨p27, 0, [nF 4, n1 10], true⟩]) (env := [(67, .agg [nF 2, n1 12]), (68, nI 16), (12, nI 16), (10, .ptr 2 0), (6, .ptr 3 0), (11, nI 5), (7, nI 5), (2, .ptr 0 0), (3, .ptr 1 0), (69, nI 17)]) q444 (.cons (wR r433 q444) (.cons (wR r434 q444) (.cons (wR r435 q444) (.cons (wO r436 q444) .nil)))) (sepD (by repeat (first | exact .nil | refine .cons (by first | assumption | exact Apart.symm (by assumption)) ?_))) (.cons (rule_call (args := [.agg [.flt .f32 y, S216], .agg [.flt .f32 y, S91]]) (r := .bool true) (dL q444) (dE q444) (fun H9 hk => k_eqLandMap H9 y hy L hL _ _ ((s441.keep hk ⟨by assumption, trivial⟩)).toL ((s439.keep hk ⟨by assumption, trivial⟩)).toL (mx40 mxL))) .nil) (eC q444 (.cons (put_ne rfl b407) (.cons (put_ne rfl b408) (.cons (put_ne rfl b409) (.cons (put_ne rfl b410) (.cons (put_ne rfl b411) (.cons (put_ne rfl b412) (.cons (put_ne rfl b413) (.cons (put_ne rfl b414) (.cons (put_ne rfl b415) (.cons put_same .nil))))))))))) tb_ok ap_ok ?_
   refine all2 (by kernel_rfl) ?_ ?_
   ·
    intro vs ls H445 E445 st hE
    have f446 : ((1 + 9 * (ms.length : Int)) + 9 * (ms2.length : Int)) < 0 := dt st 0
    exact absurd f446 (by omega)
   ·
    intro vs ls H447 E447 st hE
    have f448 : ¬ (((1 + 9 * (ms.length : Int)) + 9 * (ms2.length : Int)) < 0) := df st 0
    have b449 := eo st hE 83 (.agg [.flt .f32 y, S216])
    have b450 := eo st hE 84 (.int .i64 1)
    have b451 := eo st hE 10 (.ptr p241 0)
    have b452 := eo st hE 13 (.int .i64 1)
    have b453 := eo st hE 2 (.ptr p7 0)
    have b454 := eo st hE 3 (.ptr p11 0)
    have b455 := eo st hE 6 (.ptr p27 0)
    have b456 := eo st hE 7 (.int .i64 c)
    have g457 : Grew H431 H447 := (gk st)
    have g458 : Grew H H447 := Grew.trans g432 g457
    have r459 := g457.at r433
    have r460 := g457.at r434
    have r461 := g457.at r435
    have r462 := g457.at r436
    have s463 := s437.grew g457
    have s464 := s438.grew g457
    have s465 := s439.grew g457
    have s466 := s440.grew g457
    have s467 := nH431.grew g457
    have s468 := s441.grew g457
    have s469 := s442.grew g457
    have s470 := s443.grew g457
    clear st hE vs ls
    refine res_call (d := (some 85)) (f := 13) (args := [.tmp 83, .tmp 84]) (by kernel_rfl) (R := fun z H' => z = .int .i64 (1 + 9 * (L.length : Int)) ∧ OnlyS S216 H447 H' ∧ SlW H' 9 (mksMark 1 L.length) S216) ?_ ?_
    ·
     show ACalls _ _ [E447 83, E447 84] _ _
     rw [b449, b450]
     exact w_markLandMap H447 y hy L hL S216 s468 1 (by decide) (by decide) mxL
    rintro z H471 ⟨rfl, oH471, nH471⟩
    have g472 : Grew H H471 := OnlyS.own g458 fr227 oH471
    have r473 := oH471.at r459 (by assumption)
    have r474 := oH471.at r460 (by assumption)
    have r475 := oH471.at r461 (by assumption)
    have r476 := oH471.at r462 (by assumption)
    have s477 := s463.only oH471 (by first | assumption | exact ApartS.symm (by assumption))
    have s478 := s464.only oH471 (by first | assumption | exact ApartS.symm (by assumption))
    have s479 := s465.only oH471 (by first | assumption | exact ApartS.symm (by assumption))
    have s480 := s466.only oH471 (by first | assumption | exact ApartS.symm (by assumption))
    have s481 := s467.only oH471 (by first | assumption | exact ApartS.symm (by assumption))
    have s482 := s469.only oH471 (by first | assumption | exact ApartS.symm (by assumption))
    have s483 := s470.only oH471 (by first | assumption | exact ApartS.symm (by assumption))
    have q484 := q444.app (.cons ⟨_, rfl⟩ .nil : KdsL [KI] [.int .i64 (1 + 9 * (L.length : Int))])
    refine run_mc (φ := φ0) (pm := pmR 3 [(.call 14 [.agg [nF 4, n1 13], .lit (.int .i64 1)], nI 18)] 0) 20 (ws := [⟨p7, 0, [nF 0, n1 1], false⟩, ⟨p11, 0, [nF 2, n1 3], false⟩, ⟨p241, 0, [nF 4, n1 13], false⟩, ⟨p27, 0, [nF 4, n1 10], true⟩]) (env := [(83, .agg [nF 4, n1 13]), (84, .lit (.int .i64 1)), (10, .ptr 2 0), (13, .lit (.int .i64 1)), (2, .ptr 0 0), (3, .ptr 1 0), (6, .ptr 3 0), (7, nI 5), (85, nI 18)]) q484 (.cons (wR r473 q484) (.cons (wR r474 q484) (.cons (wR r475 q484) (.cons (wO r476 q484) .nil)))) (sepD (by repeat (first | exact .nil | refine .cons (by first | assumption | exact Apart.symm (by assumption)) ?_))) (.cons (rule_call (args := [.agg [.flt .f32 y, S216], .int .i64 1]) (r := .int .i64 (1 + 9 * (L.length : Int))) (dL q484) (dE q484) (fun H9 hk => w_heldLandMap H9 y hy 1 L.length S216 ((nH471.keep hk ⟨by assumption, trivial⟩)).toL (by decide) (by decide) mxL)) .nil) (eC q484 (.cons (put_ne rfl b449) (.cons (put_ne rfl b450) (.cons (put_ne rfl b451) (.cons (put_ne rfl b452) (.cons (put_ne rfl b453) (.cons (put_ne rfl b454) (.cons (put_ne rfl b455) (.cons (put_ne rfl b456) (.cons put_same .nil)))))))))) tb_ok ap_ok ?_
    refine all2 (by kernel_rfl) ?_ ?_
    ·
     intro vs ls H485 E485 st hE
     have f486 : (1 + 9 * (L.length : Int)) < 0 := dt st 0
     exact absurd f486 (by omega)
    ·
     intro vs ls H487 E487 st hE
     have f488 : ¬ ((1 + 9 * (L.length : Int)) < 0) := df st 0
     obtain ⟨p489, e490, r491, n492⟩ := ptr_of st.inn hE 15 4 (by kernel_rfl) (ds := [.flt .f32 (some 0), .nilslice]) (by kernel_rfl)
     have op489 : H.next ≤ p489 := Nat.le_trans g472.next (n492 (Nat.le_of_ble_eq_true rfl))
     have ne493 := apn r473 (n492 (Nat.le_of_ble_eq_true rfl))
     have ne494 := apn r474 (n492 (Nat.le_of_ble_eq_true rfl))
     have ne495 := apn r475 (n492 (Nat.le_of_ble_eq_true rfl))
     have ne496 := apn r476 (n492 (Nat.le_of_ble_eq_true rfl))
     have ne497 : ApartL (S41) p489 := s477.apart_new (n492 (Nat.le_of_ble_eq_true rfl))
     have ne498 : ApartL (S64) p489 := s478.apart_new (n492 (Nat.le_of_ble_eq_true rfl))
     have ne499 : ApartL (S91) p489 := s479.apart_new (n492 (Nat.le_of_ble_eq_true rfl))
     have ne500 : ApartL (S119) p489 := s480.apart_new (n492 (Nat.le_of_ble_eq_true rfl))
     have ne501 : ApartL (S162) p489 := s481.apart_new (n492 (Nat.le_of_ble_eq_true rfl))
     have ne502 : ApartL (S216) p489 := nH471.apart_new (n492 (Nat.le_of_ble_eq_true rfl))
     have ne503 : ApartL (S278) p489 := s482.apart_new (n492 (Nat.le_of_ble_eq_true rfl))
     have ne504 : ApartL (S333) p489 := s483.apart_new (n492 (Nat.le_of_ble_eq_true rfl))
     have b505 := eo st hE 95 (.agg [.flt .f32 x, S])
     have b506 := eo st hE 97 (.agg [.flt .f32 x2, S2])
     have b507 := eo st hE 6 (.ptr p27 0)
     have b508 := eo st hE 7 (.int .i64 c)
     have b509 := eo st hE 10 (.ptr p241 0)
     have b510 := eo st hE 14 (.int .i64 (1 + 9 * (L.length : Int)))
     have b511 := eo st hE 13 (.int .i64 (1 + 9 * (L.length : Int)))
     have g512 : Grew H471 H487 := (gk st)
     have g513 : Grew H H487 := Grew.trans g472 g512
     have r516 := g512.at r475
     have r517 := g512.at r476
     have s518 := s477.grew g512
     have s519 := s478.grew g512
     have s520 := s479.grew g512
     have s521 := s480.grew g512
     have s522 := s481.grew g512
     have s523 := nH471.grew g512
     have s524 := s482.grew g512
     have s525 := s483.grew g512
     clear st hE vs ls
     refine res_kid (free := false) (d := (some 96)) (f := 9) (args := [.tmp 95]) (by kernel_rfl) (R := fun z H' => Grew H487 H' ∧ ∃ S', z = .agg [.flt .f32 x, S'] ∧ SlW H' 9 ms S' ∧ FreshS H487.next S') ?_ ?_
     ·
      show ACalls _ _ [E487 95] _ _
      rw [b505]
      exact w_toLandMap H487 x hx ms hr S (hS.grew g513) mxms
     rintro z H527 ⟨gS526, S526, rfl, sS526, fS526⟩
     refine ⟨gS526, ?_⟩
     have ne528 : ApartL (S526) p241 := fS526.apartL (H487.lt_of_get r516)
     have ne529 : ApartL (S526) p489 := fS526.apartL (H487.lt_of_get r491)
     have ne530 : ApartL (S526) p27 := fS526.apartL (H487.lt_of_get r517)
     have ne531 : ApartS (S526) (S41) := fS526.apartS s518.lt
     have ne532 : ApartS (S526) (S64) := fS526.apartS s519.lt
     have ne533 : ApartS (S526) (S91) := fS526.apartS s520.lt
     have ne534 : ApartS (S526) (S119) := fS526.apartS s521.lt
     have ne535 : ApartS (S526) (S162) := fS526.apartS s522.lt
     have ne536 : ApartS (S526) (S216) := fS526.apartS s523.lt
     have ne537 : ApartS (S526) (S278) := fS526.apartS s524.lt
     have ne538 : ApartS (S526) (S333) := fS526.apartS s525.lt
     have fr539 : FreshS H.next (S526) := fS526.mono g513.next
     have g540 : Grew H H527 := Grew.trans g513 gS526
     have r541 := gS526.at r516
     have r542 := gS526.at r491
     have r543 := gS526.at r517
     have s544 := s518.grew gS526
     have s545 := s519.grew gS526
     have s546 := s520.grew gS526
     have s547 := s521.grew gS526
     have s548 := s522.grew gS526
     have s549 := s523.grew gS526
     have s550 := s524.grew gS526
     have s551 := s525.grew gS526
     have q552 := q484.app (.cons sS526.one .nil : KdsL [.one] [S526])
     refine run_mc (φ := φ0) (pm := pmR 2 [] 0) 20 (ws := [⟨p241, 0, [nF 4, n1 13], false⟩, ⟨p489, 0, [.lit (.flt .f32 (some 0)), .lit .nilslice], false⟩, ⟨p27, 0, [nF 4, n1 10], true⟩]) (env := [(95, .agg [nF 0, n1 1]), (97, .agg [nF 2, n1 3]), (15, .ptr 1 0), (6, .ptr 2 0), (7, nI 5), (10, .ptr 0 0), (14, nI 18), (13, nI 18), (96, .agg [nF 0, n1 19])]) q552 (.cons (wR r541 q552) (.cons (wR r542 q552) (.cons (wO r543 q552) .nil))) (sepD (by repeat (first | exact .nil | refine .cons (by first | assumption | exact Apart.symm (by assumption)) ?_))) .nil (eC q552 (.cons (put_ne rfl b505) (.cons (put_ne rfl b506) (.cons (put_ne rfl e490) (.cons (put_ne rfl b507) (.cons (put_ne rfl b508) (.cons (put_ne rfl b509) (.cons (put_ne rfl b510) (.cons (put_ne rfl b511) (.cons put_same .nil)))))))))) tb_ok ap_ok ?_
     refine all1 (by kernel_rfl) ?_
     intro vs ls H553 E553 st hE
     have b554 := eo st hE 97 (.agg [.flt .f32 x2, S2])
     have b555 := eo st hE 96 (.agg [.flt .f32 x, S526])
     have b556 := eo st hE 15 (.ptr p489 0)
     have b557 := eo st hE 6 (.ptr p27 0)
     have b558 := eo st hE 7 (.int .i64 c)
     have b559 := eo st hE 10 (.ptr p241 0)
     have b560 := eo st hE 14 (.int .i64 (1 + 9 * (L.length : Int)))
     have b561 := eo st hE 13 (.int .i64 (1 + 9 * (L.length : Int)))
     have g562 : Grew H527 H553 := (gk st)
     have g563 : Grew H H553 := Grew.trans g540 g562
     have r564 := g562.at r541
     have r565 := g562.at r542
     have r566 := g562.at r543
     have s567 := s544.grew g562
     have s568 := s545.grew g562
     have s569 := s546.grew g562
     have s570 := s547.grew g562
     have s571 := s548.grew g562
     have s572 := s549.grew g562
     have s573 := s550.grew g562
     have s574 := s551.grew g562
     have s575 := sS526.grew g562
     clear st hE vs ls
     refine res_kid (free := false) (d := (some 98)) (f := 9) (args := [.tmp 97]) (by kernel_rfl) (R := fun z H' => Grew H553 H' ∧ ∃ S', z = .agg [.flt .f32 x2, S'] ∧ SlW H' 9 ms2 S' ∧ FreshS H553.next S') ?_ ?_
     ·
      show ACalls _ _ [E553 97] _ _
      rw [b554]
      exact w_toLandMap H553 x2 hx2 ms2 hr2 S2 (hS2.grew g563) mxms2
     rintro z H577 ⟨gS576, S576, rfl, sS576, fS576⟩
     refine ⟨gS576, ?_⟩
     have ne578 : ApartL (S576) p241 := fS576.apartL (H553.lt_of_get r564)
     have ne579 : ApartL (S576) p489 := fS576.apartL (H553.lt_of_get r565)
     have ne580 : ApartL (S576) p27 := fS576.apartL (H553.lt_of_get r566)
     have ne581 : ApartS (S576) (S41) := fS576.apartS s567.lt
     have ne582 : ApartS (S576) (S64) := fS576.apartS s568.lt
     have ne583 : ApartS (S576) (S91) := fS576.apartS s569.lt
     have ne584 : ApartS (S576) (S119) := fS576.apartS s570.lt
     have ne585 : ApartS (S576) (S162) := fS576.apartS s571.lt
     have ne586 : ApartS (S576) (S216) := fS576.apartS s572.lt
     have ne587 : ApartS (S576) (S278) := fS576.apartS s573.lt
     have ne588 : ApartS (S576) (S333) := fS576.apartS s574.lt
     have ne589 : ApartS (S576) (S526) := fS576.apartS s575.lt
     have fr590 : FreshS H.next (S576) := fS576.mono g563.next
     have g591 : Grew H H577 := Grew.trans g563 gS576
     have r592 := gS576.at r564
     have r593 := gS576.at r565
     have r594 := gS576.at r566
     have s595 := s567.grew gS576
     have s596 := s568.grew gS576
     have s597 := s569.grew gS576
     have s598 := s570.grew gS576
     have s599 := s571.grew gS576
     have s600 := s572.grew gS576
     have s601 := s573.grew gS576
     have s602 := s574.grew gS576
     have s603 := s575.grew gS576
     have q604 := q552.app (.cons sS576.one .nil : KdsL [.one] [S576])
     refine run_mc (φ := φ0) (pm := pmR 2 [] 0) 20 (ws := [⟨p241, 0, [nF 4, n1 13], false⟩, ⟨p489, 0, [.lit (.flt .f32 (some 0)), .lit .nilslice], false⟩, ⟨p27, 0, [nF 4, n1 10], true⟩]) (env := [(97, .agg [nF 2, n1 3]), (96, .agg [nF 0, n1 19]), (15, .ptr 1 0), (6, .ptr 2 0), (7, nI 5), (10, .ptr 0 0), (14, nI 18), (13, nI 18), (98, .agg [nF 2, n1 20])]) q604 (.cons (wR r592 q604) (.cons (wR r593 q604) (.cons (wO r594 q604) .nil))) (sepD (by repeat (first | exact .nil | refine .cons (by first | assumption | exact Apart.symm (by assumption)) ?_))) .nil (eC q604 (.cons (put_ne rfl b554) (.cons (put_ne rfl b555) (.cons (put_ne rfl b556) (.cons (put_ne rfl b557) (.cons (put_ne rfl b558) (.cons (put_ne rfl b559) (.cons (put_ne rfl b560) (.cons (put_ne rfl b561) (.cons put_same .nil)))))))))) tb_ok ap_ok ?_
     refine all1 (by kernel_rfl) ?_
     intro vs ls H605 E605 st hE
     have b606 := eo st hE 96 (.agg [.flt .f32 x, S526])
     have b607 := eo st hE 98 (.agg [.flt .f32 x2, S576])
     have b608 := eo st hE 15 (.ptr p489 0)
     have b609 := eo st hE 6 (.ptr p27 0)
     have b610 := eo st hE 7 (.int .i64 c)
     have b611 := eo st hE 10 (.ptr p241 0)
     have b612 := eo st hE 14 (.int .i64 (1 + 9 * (L.length : Int)))
     have b613 := eo st hE 13 (.int .i64 (1 + 9 * (L.length : Int)))
     have g614 : Grew H577 H605 := (gk st)
     have g615 : Grew H H605 := Grew.trans g591 g614
     have r616 := g614.at r592
     have r617 := g614.at r593
     have r618 := g614.at r594
     have s619 := s595.grew g614
     have s620 := s596.grew g614
     have s621 := s597.grew g614
     have s622 := s598.grew g614
     have s623 := s599.grew g614
     have s624 := s600.grew g614
     have s625 := s601.grew g614
     have s626 := s602.grew g614
     have s627 := s603.grew g614
     have s628 := sS576.grew g614
     clear st hE vs ls
     refine res_kid (free := false) (d := (some 99)) (f := 16) (args := [.tmp 96, .tmp 98]) (by kernel_rfl) (R := fun z H' => Grew H605 H' ∧ ∃ S', z = .tuple [.agg [.flt .f32 y, S'], .int .i64 c] ∧ SlW H' 9 L S' ∧ FreshS H605.next S') ?_ ?_
     ·
      show ACalls _ _ [E605 96, E605 98] _ _
      rw [b606, b607]
      exact (by have h9 := k_impl_MergeMaps H605 x hx ms hr (S526) s627.toL mxms x2 hx2 ms2 hr2 (S576) s628.toL mxms2; rw [hV] at h9; exact h9)
     rintro z H629 ⟨gH629, S630, rfl, sS630, fS630⟩
     refine ⟨gH629, ?_⟩
     have ne631 : ApartL (S630) p241 := fS630.apartL (H605.lt_of_get r616)
     have ne632 : ApartL (S630) p489 := fS630.apartL (H605.lt_of_get r617)
     have ne633 : ApartL (S630) p27 := fS630.apartL (H605.lt_of_get r618)
     have ne634 : ApartS (S630) (S41) := fS630.apartS s619.lt
     have ne635 : ApartS (S630) (S64) := fS630.apartS s620.lt
     have ne636 : ApartS (S630) (S91) := fS630.apartS s621.lt
     have ne637 : ApartS (S630) (S119) := fS630.apartS s622.lt
     have ne638 : ApartS (S630) (S162) := fS630.apartS s623.lt
     have ne639 : ApartS (S630) (S216) := fS630.apartS s624.lt
     have ne640 : ApartS (S630) (S278) := fS630.apartS s625.lt
     have ne641 : ApartS (S630) (S333) := fS630.apartS s626.lt
     have ne642 : ApartS (S630) (S526) := fS630.apartS s627.lt
     have ne643 : ApartS (S630) (S576) := fS630.apartS s628.lt
     have fr644 : FreshS H.next (S630) := fS630.mono g615.next
     have g645 : Grew H H629 := Grew.trans g615 gH629
     have r646 := gH629.at r616
     have r647 := gH629.at r617
     have r648 := gH629.at r618
     have s651 := s621.grew gH629
     have s654 := s624.grew gH629
     have q659 := q604.app (.cons sS630.one .nil : KdsL [.one] [S630])
     refine run_mc (φ := φ0) (pm := pmR 1 [(.call 12 [.agg [nF 4, n1 21], .agg [nF 4, n1 10]], .lit (.bool true)), (.call 14 [.agg [nF 4, n1 13], .lit (.int .i64 1)], nI 18)] 0) 20 (ws := [⟨p241, 0, [nF 4, n1 13], false⟩, ⟨p27, 0, [nF 4, n1 10], true⟩, ⟨p489, 0, [.lit (.flt .f32 (some 0)), .lit .nilslice], true⟩]) (env := [(96, .agg [nF 0, n1 19]), (98, .agg [nF 2, n1 20]), (15, .ptr 2 0), (6, .ptr 1 0), (7, nI 5), (10, .ptr 0 0), (14, nI 18), (13, nI 18), (99, .tup [.agg [nF 4, n1 21], nI 5])]) q659 (.cons (wR r646 q659) (.cons (wO r648 q659) (.cons (wO r647 q659) .nil))) (sepD (by repeat (first | exact .nil | refine .cons (by first | assumption | exact Apart.symm (by assumption)) ?_))) (.cons (rule_call (args := [.agg [.flt .f32 y, S630], .agg [.flt .f32 y, S91]]) (r := .bool true) (dL q659) (dE q659) (fun H9 hk => k_eqLandMap H9 y hy L hL _ _ ((sS630.keep hk ⟨by assumption, ⟨by assumption, trivial⟩⟩)).toL ((s651.keep hk ⟨by assumption, ⟨by assumption, trivial⟩⟩)).toL (mx40 mxL))) (.cons (rule_call (args := [.agg [.flt .f32 y, S216], .int .i64 1]) (r := .int .i64 (1 + 9 * (L.length : Int))) (dL q659) (dE q659) (fun H9 hk => w_heldLandMap H9 y hy 1 L.length S216 ((s654.keep hk ⟨by assumption, ⟨by assumption, trivial⟩⟩)).toL (by decide) (by decide) mxL)) .nil)) (eC q659 (.cons (put_ne rfl b606) (.cons (put_ne rfl b607) (.cons (put_ne rfl b608) (.cons (put_ne rfl b609) (.cons (put_ne rfl b610) (.cons (put_ne rfl b611) (.cons (put_ne rfl b612) (.cons (put_ne rfl b613) (.cons put_same .nil)))))))))) tb_ok ap_ok ?_
     refine all2 (by kernel_rfl) ?_ ?_
     ·
      intro vs ls H660 E660 st hE
      have f661 : (1 + 9 * (L.length : Int)) < 0 := dt st 0
      exact absurd f661 (by omega)
     ·
      intro vs ls H662 E662 st hE
      have f663 : ¬ ((1 + 9 * (L.length : Int)) < 0) := df st 0
      exact res_ex (by kernel_rfl) (end_same st.inn hE (.inr rfl) (a := .bool true) (by kernel_rfl) (Nat.le_trans g645.next st.kept.1) rfl)
end Go.Proofs.Ytacligocjfhckaa
