/- Contracts: maps with marks left out, by both. -/
import Derived.Test.YtgjhjemmddojfaaForgetA
import Derived.Test.YtgjhjemmddojfaaLawValidMap
set_option linter.unusedVariables false
set_option linter.unusedSimpArgs false
namespace Go.Proofs.Ytgjhjemmddojfaa
open Go.Ab
set_option maxRecDepth 100000
set_option maxHeartbeats 1000000
attribute [local irreducible] Res
theorem k_CloneM (H : AHeap) (ms : List (List AV)) (hr : Recs KM ms) (S : AV) (hS : SlL H 9 ms S) (mxms : ms.length ≤ 1048576) : ACalls Try.prog 86 [S] H fun r H' => Grew H H' ∧ SlF H' 9 ms r ∧ FreshS H.next r := by
  cases hS with
  | nil h0 =>
    refine res_start h_slices_Clone_impl_Mark_impl_Mark (by simp) ?_
    refine run_mn (φ := φ0) (pm := pmR 0 [] 0) 20 (nk := []) (fs := []) (xs := []) (ws := []) (env := [(0, .lit .nilslice)]) ?_ ?_ tb_ok ap_ok ?_
    · refine midN_in ?_ .nil _ ?_ ?_ ?_
      · exact .nil
      · exact .nil
      · exact sepOk_ro rfl
      · exact .nil
    · exact (envEq rfl (dLit rfl) envNil)
    refine all1 (by kernel_rfl) ?_
    intro vs ls H1 E1 st hE
    have gz : Grew H H1 := (Grew.trans (Grew.refl _) (st.kept.grew (Nat.le_of_ble_eq_true (by kernel_rfl))))
    exact res_ex (by kernel_rfl) (end_same st.inn hE (.inr rfl) (a := .nilslice) (by kernel_rfl) gz.next ⟨gz, .nil h0, .nil⟩)
  | @sl l n cap rest wr hg hn hc =>
    subst hn
    have hS : SlL H 9 ms (.slice l 0 ms.length cap 9) := .sl hg rfl hc
    refine res_start h_slices_Clone_impl_Mark_impl_Mark (by simp) ?_
    refine run_mn (φ := φ0) (pm := pmR 0 [(.nilS (.nd 0 .one), .lit (.bool false))] 0) 20 (nk := [(.atom 0, .one)]) (fs := []) (xs := [.slice l 0 ms.length cap 9]) (ws := []) (env := [(0, .nd 0 .one)]) ?_ ?_ tb_ok ap_ok ?_
    · refine midN_in ?_ .nil _ ?_ ?_ ?_
      · exact (.cons rfl rfl .nil)
      · exact .nil
      · exact sepOk_ro rfl
      · exact (.cons (⟨_, _, (dNd rfl rfl), dLit rfl, fun E get => by simp [aval, Opd.ev]⟩) .nil)
    · exact (envEq rfl (dNd rfl rfl) envNil)
    refine all1 (by kernel_rfl) ?_
    intro vs ls H1 E1 st hE
    obtain ⟨p2, e3, r4, n5⟩ := sl_of st.inn hE 5 0 0 0 9 (by kernel_rfl) (ds := []) (by kernel_rfl)
    have op2 : H.next ≤ p2 := Nat.le_trans (Nat.le_refl _) (n5 (Nat.le_of_ble_eq_true rfl))
    have b6 : E1 6 = .slice l 0 ms.length cap 9 := env_of st.inn hE 6 (by kernel_rfl)
    have g7 : Grew H H1 := (st.kept.grew (Nat.le_of_ble_eq_true (by kernel_rfl)))
    have g8 : Grew H H1 := Grew.trans (Grew.refl _) g7
    clear st hE vs ls
    have sx11 : SlF H1 9 [] (.slice p2 0 0 0 9) := .sl (by simpa using r4) rfl (Nat.le_refl _)
    refine res_append0 (d := (some 7)) (sz := 9) (bytes := 48) (x := .tmp 5) (y := .tmp 6) (by kernel_rfl) (S := .slice p2 0 0 0 9) (ys := ms) (by show E1 5 = _; exact e3) sx11 (.inr ⟨_, rfl⟩) (by show srcCells _ _ (E1 6) = _; rw [b6]; exact src_list hr.len (hS.grew g8)) (recs_one hr rfl) (by omega) ?_
    intro S9 H10 sS9 fS9 oS9
    have fr12 : FreshS H.next (S9) := fS9.fresh (FreshS.of_le op2) g8.next
    have g13 : Grew H H10 := Grew.trans g8 oS9
    have r14 := oS9.at r4
    refine run_mn (φ := φ0) (pm := pmR 0 [] 0) 20 (nk := [(.atom 0, .one), (.atom 1, .one)]) (fs := []) (xs := [.slice l 0 ms.length cap 9, S9]) (ws := []) (env := [(6, .nd 0 .one), (7, .nd 1 .one)]) ?_ ?_ tb_ok ap_ok ?_
    · refine midN_in ?_ .nil _ ?_ ?_ ?_
      · exact (.cons rfl rfl (.cons rfl sS9.one .nil))
      · exact .nil
      · exact sepOk_ro rfl
      · exact .nil
    · exact (envEq (put_ne rfl b6) (dNd rfl rfl) (envEq put_same (dNd rfl sS9.one) envNil))
    refine all1 (by kernel_rfl) ?_
    intro vs ls H15 E15 st hE
    have gz : Grew H H15 := (Grew.trans g13 (st.kept.grew (Nat.le_of_ble_eq_true (by kernel_rfl))))
    exact res_ex (by kernel_rfl) (end_same st.inn hE (.inr rfl) (a := S9) (by kernel_rfl) gz.next ⟨gz, (sS9.grew (st.inn.kept.grew (Nat.le_refl _))), fr12⟩)
theorem k_leavingLast (H : AHeap) (x : Option Nat) (hx : fOk .f32 x) (ms : List (List AV)) (hr : Recs KM ms) (S : AV) (hS : SlL H 9 ms S) (mxms : ms.length ≤ 1048576) (t : Int) (c : Nat) (hg : H.get c = some (.row [.int .i64 t] true)) : ACalls Try.prog 79 [.agg [.flt .f32 x, S], .func 80 [] [.ptr c 0]] H fun r H' => Grew H H' ∧ ∃ S', r = .agg [.flt .f32 x, S'] ∧ SlW H' 9 (ms.filter fun m => !(lastLt t) m) S' ∧ FreshS H.next S' := by
  refine res_start h_impl_leaving (by simp) ?_
  refine run_mn (φ := φ0) (pm := pmR 1 [] 0) 20 (nk := [(.atom 0, .flt .f32), (.atom 1, .one), (.atom 2, .int .i64)]) (fs := []) (xs := [.flt .f32 x, S, .int .i64 t]) (ws := [⟨c, 0, [.nd 2 (.int .i64)], false⟩]) (env := [(0, .agg [.nd 0 (.flt .f32), .nd 1 .one]), (1, .fn 80 [] [.ptr 0 0])]) ?_ ?_ tb_ok ap_ok ?_
  · refine midN_in ?_ .nil _ ?_ ?_ ?_
    · exact (.cons rfl ⟨_, rfl, hx⟩ (.cons rfl (slOne hS) (.cons rfl ⟨_, rfl⟩ .nil)))
    · exact (.cons (win_row hg (dlCons (dNd rfl ⟨_, rfl⟩) dlNil)) .nil)
    · exact sepOk_ro rfl
    · exact .nil
  · exact (envEq rfl (dAgg (dlCons (dNd rfl ⟨_, rfl, hx⟩) (dlCons (dNd rfl (slOne hS)) dlNil))) (envEq rfl (dFn' dlNil (dlCons (dPtr (l := c) (o := 0) rfl) dlNil)) envNil))
  refine all1 (by kernel_rfl) ?_
  intro vs ls H1 E1 st hE
  obtain ⟨p2, e3, r4, n5⟩ := ptr_of st.inn hE 5 1 (by kernel_rfl) (ds := [.flt .f32 x, S]) (by kernel_rfl)
  have op2 : H.next ≤ p2 := Nat.le_trans (Nat.le_refl _) (n5 (Nat.le_of_ble_eq_true rfl))
  obtain ⟨p6, e7, r8, n9⟩ := ptr_of st.inn hE 4 2 (by kernel_rfl) (ds := [.flt .f32 (some 0), .nilslice]) (by kernel_rfl)
  have op6 : H.next ≤ p6 := Nat.le_trans (Nat.le_refl _) (n9 (Nat.le_of_ble_eq_true rfl))
  have ne10 : Apart p2 p6 := ⟨ptr_ne st.inn hE 5 1 4 2 (by kernel_rfl) (by kernel_rfl) (cs := [.nd 0 (.flt .f32), .nd 1 .one]) (by kernel_rfl) (by decide) e3 e7⟩
  have ne11 : Apart p2 c := ⟨Nat.ne_of_gt (Nat.lt_of_lt_of_le (H.lt_of_get hg) (n5 (Nat.le_of_ble_eq_true rfl)))⟩
  have ne12 : Apart p6 c := ⟨Nat.ne_of_gt (Nat.lt_of_lt_of_le (H.lt_of_get hg) (n9 (Nat.le_of_ble_eq_true rfl)))⟩
  have b13 : E1 7 = .ptr p2 1 := ptr_off st.inn hE 7 1 1 (by kernel_rfl) 5 (by kernel_rfl) e3
  have b14 : E1 10 = .func 80 [] [.ptr c 0] := env_of st.inn hE 10 (by kernel_rfl)
  have b15 : E1 2 = .ptr p2 0 := ptr_off st.inn hE 2 1 0 (by kernel_rfl) 5 (by kernel_rfl) e3
  have g16 : Grew H H1 := (st.kept.grew (Nat.le_of_ble_eq_true (by kernel_rfl)))
  have g17 : Grew H H1 := Grew.trans (Grew.refl _) g16
  have r18 := g16.at hg
  clear st hE vs ls
  refine res_kids2 (by kernel_rfl) ?_ ?_
  ·
    refine run_mn (φ := φ0) (pm := pmR 3 [] 0) 20 (nk := [(.atom 0, .flt .f32), (.atom 1, .one), (.atom 2, .int .i64)]) (fs := []) (xs := [.flt .f32 x, S, .int .i64 t]) (ws := [⟨c, 0, [.nd 2 (.int .i64)], false⟩, ⟨p2, 0, [.nd 0 (.flt .f32), .nd 1 .one], false⟩, ⟨p6, 0, [.lit (.flt .f32 (some 0)), .lit .nilslice], false⟩]) (env := [(5, .ptr 1 0), (7, .ptr 1 1), (10, .fn 80 [] [.ptr 0 0]), (4, .ptr 2 0), (2, .ptr 1 0)]) ?_ ?_ tb_ok ap_ok ?_
    · refine midN_in ?_ .nil _ ?_ ?_ ?_
      · exact (.cons rfl ⟨_, rfl, hx⟩ (.cons rfl (slOne hS) (.cons rfl ⟨_, rfl⟩ .nil)))
      · exact (.cons (win_row r18 (dlCons (dNd rfl ⟨_, rfl⟩) dlNil)) (.cons (win_row r4 (dlCons (dNd rfl ⟨_, rfl, hx⟩) (dlCons (dNd rfl (slOne hS)) dlNil))) (.cons (win_row r8 (dlCons (dLit (by decide +kernel)) (dlCons (dLit rfl) dlNil))) .nil)))
      · exact sepOk_ro rfl
      · exact .nil
    · exact (envEq e3 (dPtr (l := p2) (o := 0) rfl) (envEq b13 (dPtr (l := p2) (o := 0) rfl) (envEq b14 (dFn' dlNil (dlCons (dPtr (l := c) (o := 0) rfl) dlNil)) (envEq e7 (dPtr (l := p6) (o := 0) rfl) (envEq b15 (dPtr (l := p2) (o := 0) rfl) envNil)))))
    refine all1 (by kernel_rfl) ?_
    intro vs ls H19 E19 st hE
    have b20 : E19 8 = S := env_of st.inn hE 8 (by kernel_rfl)
    have b21 : E19 10 = .func 80 [] [.ptr c 0] := env_of st.inn hE 10 (by kernel_rfl)
    have b22 : E19 6 = .flt .f32 x := env_of st.inn hE 6 (by kernel_rfl)
    have b23 : E19 4 = .ptr p6 0 := env_of st.inn hE 4 (by kernel_rfl)
    have g24 : Grew H1 H19 := (st.kept.grew (Nat.le_of_ble_eq_true (by kernel_rfl)))
    have g25 : Grew H H19 := Grew.trans g17 g24
    have r26 := g24.at r18
    have r27 := g24.at r4
    have r28 := g24.at r8
    clear st hE vs ls
    refine res_kidF (d := (some 9)) (f := 86) (args := [.tmp 8]) (by kernel_rfl) (R := fun z H' => Grew H19 H' ∧ SlF H' 9 ms z ∧ FreshS H19.next z) ?_ ?_
    · show ACalls _ _ [E19 8] _ _
      rw [b20]
      exact k_CloneM H19 ms hr (S) (hS.grew g25) mxms
    rintro S29 H30 ⟨gS29, sS29, fS29⟩
    have ne31 : ApartL (S29) c := fS29.apartL (H19.lt_of_get r26)
    have ne32 : ApartL (S29) p6 := fS29.apartL (H19.lt_of_get r28)
    have fr33 : FreshS H.next (S29) := fS29.mono g25.next
    have g34 : Grew H H30 := Grew.trans g25 gS29
    have r35 := gS29.at r26
    have r36 := gS29.at r28
    refine run_mn (φ := φ0) (pm := pmR 2 [] 0) 20 (nk := [(.atom 0, .flt .f32), (.atom 1, .one), (.atom 2, .int .i64), (.atom 3, .one)]) (fs := []) (xs := [.flt .f32 x, S, .int .i64 t, S29]) (ws := [⟨c, 0, [.nd 2 (.int .i64)], false⟩, ⟨p6, 0, [.lit (.flt .f32 (some 0)), .lit .nilslice], false⟩]) (env := [(8, .nd 1 .one), (10, .fn 80 [] [.ptr 0 0]), (6, .nd 0 (.flt .f32)), (4, .ptr 1 0), (9, .nd 3 .one)]) ?_ ?_ tb_ok ap_ok ?_
    · refine midN_in ?_ .nil _ ?_ ?_ ?_
      · exact (.cons rfl ⟨_, rfl, hx⟩ (.cons rfl (slOne hS) (.cons rfl ⟨_, rfl⟩ (.cons rfl sS29.one .nil))))
      · exact (.cons (win_row r35 (dlCons (dNd rfl ⟨_, rfl⟩) dlNil)) (.cons (win_row r36 (dlCons (dLit (by decide +kernel)) (dlCons (dLit rfl) dlNil))) .nil))
      · exact sepOk_ro rfl
      · exact .nil
    · exact (envEq (put_ne rfl b20) (dNd rfl (slOne hS)) (envEq (put_ne rfl b21) (dFn' dlNil (dlCons (dPtr (l := c) (o := 0) rfl) dlNil)) (envEq (put_ne rfl b22) (dNd rfl ⟨_, rfl, hx⟩) (envEq (put_ne rfl b23) (dPtr (l := p6) (o := 0) rfl) (envEq put_same (dNd rfl sS29.one) envNil)))))
    refine all1 (by kernel_rfl) ?_
    intro vs ls H37 E37 st hE
    have b38 : E37 9 = S29 := env_of st.inn hE 9 (by kernel_rfl)
    have b39 : E37 10 = .func 80 [] [.ptr c 0] := env_of st.inn hE 10 (by kernel_rfl)
    have b40 : E37 6 = .flt .f32 x := env_of st.inn hE 6 (by kernel_rfl)
    have b41 : E37 4 = .ptr p6 0 := env_of st.inn hE 4 (by kernel_rfl)
    have g42 : Grew H30 H37 := (st.kept.grew (Nat.le_of_ble_eq_true (by kernel_rfl)))
    have g43 : Grew H H37 := Grew.trans g34 g42
    have r44 := g42.at r35
    have r45 := g42.at r36
    have s46 := sS29.grew g42
    clear st hE vs ls
    refine res_kidF (d := (some 11)) (f := 85) (args := [.tmp 9, .tmp 10]) (by kernel_rfl) (R := fun z H' => OnlyS S29 H37 H' ∧ SlW H' 9 (ms.filter fun m => !(lastLt t) m) z ∧ ∀ l, AtS z l → AtS S29 l) ?_ ?_
    · show ACalls _ _ [E37 9, E37 10] _ _
      rw [b38, b39]
      exact k_DeleteLast H37 ms hr S29 s46 mxms t c r44 (by assumption)
    rintro S48 H47 ⟨oH47, sS48, uS48⟩
    have fsS48 : FromS H37.next (S29) S48 := ⟨fun l' hl => .inr (uS48 l' hl)⟩
    have ne49 : ApartL (S48) c := fsS48.apartL (H37.lt_of_get r44) (by assumption)
    have ne50 : ApartL (S48) p6 := fsS48.apartL (H37.lt_of_get r45) (by assumption)
    have fr51 : FreshS H.next S48 := fsS48.fresh fr33 g43.next
    have g52 : Grew H H47 := OnlyS.own g43 fr33 oH47
    have r53 := oH47.at r44 (by assumption)
    have r54 := oH47.at r45 (by assumption)
    refine run_mn (φ := φ0) (pm := pmR 1 [] 0) 20 (nk := [(.atom 0, .flt .f32), (.atom 1, .one), (.atom 2, .int .i64), (.atom 3, .one), (.atom 4, .one)]) (fs := []) (xs := [.flt .f32 x, S, .int .i64 t, S29, S48]) (ws := [⟨c, 0, [.nd 2 (.int .i64)], false⟩, ⟨p6, 0, [.lit (.flt .f32 (some 0)), .lit .nilslice], true⟩]) (env := [(9, .nd 3 .one), (10, .fn 80 [] [.ptr 0 0]), (6, .nd 0 (.flt .f32)), (4, .ptr 1 0), (11, .nd 4 .one)]) ?_ ?_ tb_ok ap_ok ?_
    · refine midN_in ?_ .nil _ ?_ ?_ ?_
      · exact (.cons rfl ⟨_, rfl, hx⟩ (.cons rfl (slOne hS) (.cons rfl ⟨_, rfl⟩ (.cons rfl sS29.one (.cons rfl sS48.one .nil)))))
      · exact (.cons (win_row r53 (dlCons (dNd rfl ⟨_, rfl⟩) dlNil)) (.cons (win_own r54 (dlCons (dLit (by decide +kernel)) (dlCons (dLit rfl) dlNil))) .nil))
      · exact ⟨(fun v hv h => (by simp at hv; rcases hv with rfl <;> first | (simp at h; done) | exact Apart.ne (by assumption) | exact (Apart.ne (by assumption)).symm)), ⟨(fun v hv => (by cases hv)), trivial⟩⟩
      · exact .nil
    · exact (envEq (put_ne rfl b38) (dNd rfl sS29.one) (envEq (put_ne rfl b39) (dFn' dlNil (dlCons (dPtr (l := c) (o := 0) rfl) dlNil)) (envEq (put_ne rfl b40) (dNd rfl ⟨_, rfl, hx⟩) (envEq (put_ne rfl b41) (dPtr (l := p6) (o := 0) rfl) (envEq put_same (dNd rfl sS48.one) envNil)))))
    refine all1 (by kernel_rfl) ?_
    intro vs ls H55 E55 st hE
    have gz : Grew H H55 := (grew_own g52 (st.inn.kept) ⟨op6, trivial⟩)
    exact res_ex (by kernel_rfl) (end_same st.inn hE (.inr rfl) (a := .agg [.flt .f32 x, S48]) (by kernel_rfl) gz.next ⟨gz, _, rfl, (sS48.keep st.inn.kept ⟨by assumption, trivial⟩), fr51⟩)
  ·
    refine run_mn (φ := φ0) (pm := pmR 3 [] 0) 20 (nk := [(.atom 0, .flt .f32), (.atom 1, .one), (.atom 2, .int .i64)]) (fs := []) (xs := [.flt .f32 x, S, .int .i64 t]) (ws := [⟨c, 0, [.nd 2 (.int .i64)], false⟩, ⟨p2, 0, [.nd 0 (.flt .f32), .nd 1 .one], false⟩, ⟨p6, 0, [.lit (.flt .f32 (some 0)), .lit .nilslice], false⟩]) (env := [(5, .ptr 1 0), (7, .ptr 1 1), (10, .fn 80 [] [.ptr 0 0]), (4, .ptr 2 0), (2, .ptr 1 0)]) ?_ ?_ tb_ok ap_ok ?_
    · refine midN_in ?_ .nil _ ?_ ?_ ?_
      · exact (.cons rfl ⟨_, rfl, hx⟩ (.cons rfl (slOne hS) (.cons rfl ⟨_, rfl⟩ .nil)))
      · exact (.cons (win_row r18 (dlCons (dNd rfl ⟨_, rfl⟩) dlNil)) (.cons (win_row r4 (dlCons (dNd rfl ⟨_, rfl, hx⟩) (dlCons (dNd rfl (slOne hS)) dlNil))) (.cons (win_row r8 (dlCons (dLit (by decide +kernel)) (dlCons (dLit rfl) dlNil))) .nil)))
      · exact sepOk_ro rfl
      · exact .nil
    · exact (envEq e3 (dPtr (l := p2) (o := 0) rfl) (envEq b13 (dPtr (l := p2) (o := 0) rfl) (envEq b14 (dFn' dlNil (dlCons (dPtr (l := c) (o := 0) rfl) dlNil)) (envEq e7 (dPtr (l := p6) (o := 0) rfl) (envEq b15 (dPtr (l := p2) (o := 0) rfl) envNil)))))
    refine all1 (by kernel_rfl) ?_
    intro vs ls H56 E56 st hE
    have b57 : E56 5 = .ptr p2 0 := env_of st.inn hE 5 (by kernel_rfl)
    have b58 : E56 8 = S := env_of st.inn hE 8 (by kernel_rfl)
    have b59 : E56 10 = .func 80 [] [.ptr c 0] := env_of st.inn hE 10 (by kernel_rfl)
    have b60 : E56 4 = .ptr p6 0 := env_of st.inn hE 4 (by kernel_rfl)
    have g61 : Grew H1 H56 := (st.kept.grew (Nat.le_of_ble_eq_true (by kernel_rfl)))
    have g62 : Grew H H56 := Grew.trans g17 g61
    have r63 := g61.at r18
    have r64 := g61.at r4
    have r65 := g61.at r8
    clear st hE vs ls
    refine res_kids2 (by kernel_rfl) ?_ ?_
    ·
      refine run_mn (φ := φ0) (pm := pmR 3 [] 0) 20 (nk := [(.atom 0, .flt .f32), (.atom 1, .one), (.atom 2, .int .i64)]) (fs := []) (xs := [.flt .f32 x, S, .int .i64 t]) (ws := [⟨c, 0, [.nd 2 (.int .i64)], false⟩, ⟨p2, 0, [.nd 0 (.flt .f32), .nd 1 .one], false⟩, ⟨p6, 0, [.lit (.flt .f32 (some 0)), .lit .nilslice], false⟩]) (env := [(5, .ptr 1 0), (8, .nd 1 .one), (10, .fn 80 [] [.ptr 0 0]), (4, .ptr 2 0)]) ?_ ?_ tb_ok ap_ok ?_
      · refine midN_in ?_ .nil _ ?_ ?_ ?_
        · exact (.cons rfl ⟨_, rfl, hx⟩ (.cons rfl (slOne hS) (.cons rfl ⟨_, rfl⟩ .nil)))
        · exact (.cons (win_row r63 (dlCons (dNd rfl ⟨_, rfl⟩) dlNil)) (.cons (win_row r64 (dlCons (dNd rfl ⟨_, rfl, hx⟩) (dlCons (dNd rfl (slOne hS)) dlNil))) (.cons (win_row r65 (dlCons (dLit (by decide +kernel)) (dlCons (dLit rfl) dlNil))) .nil)))
        · exact sepOk_ro rfl
        · exact .nil
      · exact (envEq b57 (dPtr (l := p2) (o := 0) rfl) (envEq b58 (dNd rfl (slOne hS)) (envEq b59 (dFn' dlNil (dlCons (dPtr (l := c) (o := 0) rfl) dlNil)) (envEq b60 (dPtr (l := p6) (o := 0) rfl) envNil))))
      refine all1 (by kernel_rfl) ?_
      intro vs ls H66 E66 st hE
      have b67 : E66 8 = S := env_of st.inn hE 8 (by kernel_rfl)
      have b68 : E66 10 = .func 80 [] [.ptr c 0] := env_of st.inn hE 10 (by kernel_rfl)
      have b69 : E66 6 = .flt .f32 x := env_of st.inn hE 6 (by kernel_rfl)
      have b70 : E66 4 = .ptr p6 0 := env_of st.inn hE 4 (by kernel_rfl)
      have g71 : Grew H56 H66 := (st.kept.grew (Nat.le_of_ble_eq_true (by kernel_rfl)))
      have g72 : Grew H H66 := Grew.trans g62 g71
      have r73 := g71.at r63
      have r74 := g71.at r64
      have r75 := g71.at r65
      clear st hE vs ls
      refine res_kidF (d := (some 9)) (f := 86) (args := [.tmp 8]) (by kernel_rfl) (R := fun z H' => Grew H66 H' ∧ SlF H' 9 ms z ∧ FreshS H66.next z) ?_ ?_
      · show ACalls _ _ [E66 8] _ _
        rw [b67]
        exact k_CloneM H66 ms hr (S) (hS.grew g72) mxms
      rintro S76 H77 ⟨gS76, sS76, fS76⟩
      have ne78 : ApartL (S76) c := fS76.apartL (H66.lt_of_get r73)
      have ne79 : ApartL (S76) p6 := fS76.apartL (H66.lt_of_get r75)
      have fr80 : FreshS H.next (S76) := fS76.mono g72.next
      have g81 : Grew H H77 := Grew.trans g72 gS76
      have r82 := gS76.at r73
      have r83 := gS76.at r75
      refine run_mn (φ := φ0) (pm := pmR 2 [] 0) 20 (nk := [(.atom 0, .flt .f32), (.atom 1, .one), (.atom 2, .int .i64), (.atom 3, .one)]) (fs := []) (xs := [.flt .f32 x, S, .int .i64 t, S76]) (ws := [⟨c, 0, [.nd 2 (.int .i64)], false⟩, ⟨p6, 0, [.lit (.flt .f32 (some 0)), .lit .nilslice], false⟩]) (env := [(8, .nd 1 .one), (10, .fn 80 [] [.ptr 0 0]), (6, .nd 0 (.flt .f32)), (4, .ptr 1 0), (9, .nd 3 .one)]) ?_ ?_ tb_ok ap_ok ?_
      · refine midN_in ?_ .nil _ ?_ ?_ ?_
        · exact (.cons rfl ⟨_, rfl, hx⟩ (.cons rfl (slOne hS) (.cons rfl ⟨_, rfl⟩ (.cons rfl sS76.one .nil))))
        · exact (.cons (win_row r82 (dlCons (dNd rfl ⟨_, rfl⟩) dlNil)) (.cons (win_row r83 (dlCons (dLit (by decide +kernel)) (dlCons (dLit rfl) dlNil))) .nil))
        · exact sepOk_ro rfl
        · exact .nil
      · exact (envEq (put_ne rfl b67) (dNd rfl (slOne hS)) (envEq (put_ne rfl b68) (dFn' dlNil (dlCons (dPtr (l := c) (o := 0) rfl) dlNil)) (envEq (put_ne rfl b69) (dNd rfl ⟨_, rfl, hx⟩) (envEq (put_ne rfl b70) (dPtr (l := p6) (o := 0) rfl) (envEq put_same (dNd rfl sS76.one) envNil)))))
      refine all1 (by kernel_rfl) ?_
      intro vs ls H84 E84 st hE
      have b85 : E84 9 = S76 := env_of st.inn hE 9 (by kernel_rfl)
      have b86 : E84 10 = .func 80 [] [.ptr c 0] := env_of st.inn hE 10 (by kernel_rfl)
      have b87 : E84 6 = .flt .f32 x := env_of st.inn hE 6 (by kernel_rfl)
      have b88 : E84 4 = .ptr p6 0 := env_of st.inn hE 4 (by kernel_rfl)
      have g89 : Grew H77 H84 := (st.kept.grew (Nat.le_of_ble_eq_true (by kernel_rfl)))
      have g90 : Grew H H84 := Grew.trans g81 g89
      have r91 := g89.at r82
      have r92 := g89.at r83
      have s93 := sS76.grew g89
      clear st hE vs ls
      refine res_kidF (d := (some 11)) (f := 85) (args := [.tmp 9, .tmp 10]) (by kernel_rfl) (R := fun z H' => OnlyS S76 H84 H' ∧ SlW H' 9 (ms.filter fun m => !(lastLt t) m) z ∧ ∀ l, AtS z l → AtS S76 l) ?_ ?_
      · show ACalls _ _ [E84 9, E84 10] _ _
        rw [b85, b86]
        exact k_DeleteLast H84 ms hr S76 s93 mxms t c r91 (by assumption)
      rintro S95 H94 ⟨oH94, sS95, uS95⟩
      have fsS95 : FromS H84.next (S76) S95 := ⟨fun l' hl => .inr (uS95 l' hl)⟩
      have ne96 : ApartL (S95) c := fsS95.apartL (H84.lt_of_get r91) (by assumption)
      have ne97 : ApartL (S95) p6 := fsS95.apartL (H84.lt_of_get r92) (by assumption)
      have fr98 : FreshS H.next S95 := fsS95.fresh fr80 g90.next
      have g99 : Grew H H94 := OnlyS.own g90 fr80 oH94
      have r100 := oH94.at r91 (by assumption)
      have r101 := oH94.at r92 (by assumption)
      refine run_mn (φ := φ0) (pm := pmR 1 [] 0) 20 (nk := [(.atom 0, .flt .f32), (.atom 1, .one), (.atom 2, .int .i64), (.atom 3, .one), (.atom 4, .one)]) (fs := []) (xs := [.flt .f32 x, S, .int .i64 t, S76, S95]) (ws := [⟨c, 0, [.nd 2 (.int .i64)], false⟩, ⟨p6, 0, [.lit (.flt .f32 (some 0)), .lit .nilslice], true⟩]) (env := [(9, .nd 3 .one), (10, .fn 80 [] [.ptr 0 0]), (6, .nd 0 (.flt .f32)), (4, .ptr 1 0), (11, .nd 4 .one)]) ?_ ?_ tb_ok ap_ok ?_
      · refine midN_in ?_ .nil _ ?_ ?_ ?_
        · exact (.cons rfl ⟨_, rfl, hx⟩ (.cons rfl (slOne hS) (.cons rfl ⟨_, rfl⟩ (.cons rfl sS76.one (.cons rfl sS95.one .nil)))))
        · exact (.cons (win_row r100 (dlCons (dNd rfl ⟨_, rfl⟩) dlNil)) (.cons (win_own r101 (dlCons (dLit (by decide +kernel)) (dlCons (dLit rfl) dlNil))) .nil))
        · exact ⟨(fun v hv h => (by simp at hv; rcases hv with rfl <;> first | (simp at h; done) | exact Apart.ne (by assumption) | exact (Apart.ne (by assumption)).symm)), ⟨(fun v hv => (by cases hv)), trivial⟩⟩
        · exact .nil
      · exact (envEq (put_ne rfl b85) (dNd rfl sS76.one) (envEq (put_ne rfl b86) (dFn' dlNil (dlCons (dPtr (l := c) (o := 0) rfl) dlNil)) (envEq (put_ne rfl b87) (dNd rfl ⟨_, rfl, hx⟩) (envEq (put_ne rfl b88) (dPtr (l := p6) (o := 0) rfl) (envEq put_same (dNd rfl sS95.one) envNil)))))
      refine all1 (by kernel_rfl) ?_
      intro vs ls H102 E102 st hE
      have gz : Grew H H102 := (grew_own g99 (st.inn.kept) ⟨op6, trivial⟩)
      exact res_ex (by kernel_rfl) (end_same st.inn hE (.inr rfl) (a := .agg [.flt .f32 x, S95]) (by kernel_rfl) gz.next ⟨gz, _, rfl, (sS95.keep st.inn.kept ⟨by assumption, trivial⟩), fr98⟩)
    ·
      refine run_mn (φ := φ0) (pm := pmR 3 [] 0) 20 (nk := [(.atom 0, .flt .f32), (.atom 1, .one), (.atom 2, .int .i64)]) (fs := []) (xs := [.flt .f32 x, S, .int .i64 t]) (ws := [⟨c, 0, [.nd 2 (.int .i64)], false⟩, ⟨p2, 0, [.nd 0 (.flt .f32), .nd 1 .one], false⟩, ⟨p6, 0, [.lit (.flt .f32 (some 0)), .lit .nilslice], false⟩]) (env := [(5, .ptr 1 0), (8, .nd 1 .one), (10, .fn 80 [] [.ptr 0 0]), (4, .ptr 2 0)]) ?_ ?_ tb_ok ap_ok ?_
      · refine midN_in ?_ .nil _ ?_ ?_ ?_
        · exact (.cons rfl ⟨_, rfl, hx⟩ (.cons rfl (slOne hS) (.cons rfl ⟨_, rfl⟩ .nil)))
        · exact (.cons (win_row r63 (dlCons (dNd rfl ⟨_, rfl⟩) dlNil)) (.cons (win_row r64 (dlCons (dNd rfl ⟨_, rfl, hx⟩) (dlCons (dNd rfl (slOne hS)) dlNil))) (.cons (win_row r65 (dlCons (dLit (by decide +kernel)) (dlCons (dLit rfl) dlNil))) .nil)))
        · exact sepOk_ro rfl
        · exact .nil
      · exact (envEq b57 (dPtr (l := p2) (o := 0) rfl) (envEq b58 (dNd rfl (slOne hS)) (envEq b59 (dFn' dlNil (dlCons (dPtr (l := c) (o := 0) rfl) dlNil)) (envEq b60 (dPtr (l := p6) (o := 0) rfl) envNil))))
      refine all1 (by kernel_rfl) ?_
      intro vs ls H103 E103 st hE
      have b104 : E103 8 = S := env_of st.inn hE 8 (by kernel_rfl)
      have b105 : E103 5 = .ptr p2 0 := env_of st.inn hE 5 (by kernel_rfl)
      have b106 : E103 10 = .func 80 [] [.ptr c 0] := env_of st.inn hE 10 (by kernel_rfl)
      have b107 : E103 4 = .ptr p6 0 := env_of st.inn hE 4 (by kernel_rfl)
      have g108 : Grew H56 H103 := (st.kept.grew (Nat.le_of_ble_eq_true (by kernel_rfl)))
      have g109 : Grew H H103 := Grew.trans g62 g108
      have r110 := g108.at r63
      have r111 := g108.at r64
      have r112 := g108.at r65
      clear st hE vs ls
      refine res_kidF (d := (some 9)) (f := 86) (args := [.tmp 8]) (by kernel_rfl) (R := fun z H' => Grew H103 H' ∧ SlF H' 9 ms z ∧ FreshS H103.next z) ?_ ?_
      · show ACalls _ _ [E103 8] _ _
        rw [b104]
        exact k_CloneM H103 ms hr (S) (hS.grew g109) mxms
      rintro S113 H114 ⟨gS113, sS113, fS113⟩
      have ne115 : ApartL (S113) c := fS113.apartL (H103.lt_of_get r110)
      have ne116 : ApartL (S113) p2 := fS113.apartL (H103.lt_of_get r111)
      have ne117 : ApartL (S113) p6 := fS113.apartL (H103.lt_of_get r112)
      have fr118 : FreshS H.next (S113) := fS113.mono g109.next
      have g119 : Grew H H114 := Grew.trans g109 gS113
      have r120 := gS113.at r110
      have r121 := gS113.at r111
      have r122 := gS113.at r112
      refine run_mn (φ := φ0) (pm := pmR 3 [] 0) 20 (nk := [(.atom 0, .flt .f32), (.atom 1, .one), (.atom 2, .int .i64), (.atom 3, .one)]) (fs := []) (xs := [.flt .f32 x, S, .int .i64 t, S113]) (ws := [⟨c, 0, [.nd 2 (.int .i64)], false⟩, ⟨p2, 0, [.nd 0 (.flt .f32), .nd 1 .one], false⟩, ⟨p6, 0, [.lit (.flt .f32 (some 0)), .lit .nilslice], false⟩]) (env := [(8, .nd 1 .one), (5, .ptr 1 0), (10, .fn 80 [] [.ptr 0 0]), (4, .ptr 2 0), (9, .nd 3 .one)]) ?_ ?_ tb_ok ap_ok ?_
      · refine midN_in ?_ .nil _ ?_ ?_ ?_
        · exact (.cons rfl ⟨_, rfl, hx⟩ (.cons rfl (slOne hS) (.cons rfl ⟨_, rfl⟩ (.cons rfl sS113.one .nil))))
        · exact (.cons (win_row r120 (dlCons (dNd rfl ⟨_, rfl⟩) dlNil)) (.cons (win_row r121 (dlCons (dNd rfl ⟨_, rfl, hx⟩) (dlCons (dNd rfl (slOne hS)) dlNil))) (.cons (win_row r122 (dlCons (dLit (by decide +kernel)) (dlCons (dLit rfl) dlNil))) .nil)))
        · exact sepOk_ro rfl
        · exact .nil
      · exact (envEq (put_ne rfl b104) (dNd rfl (slOne hS)) (envEq (put_ne rfl b105) (dPtr (l := p2) (o := 0) rfl) (envEq (put_ne rfl b106) (dFn' dlNil (dlCons (dPtr (l := c) (o := 0) rfl) dlNil)) (envEq (put_ne rfl b107) (dPtr (l := p6) (o := 0) rfl) (envEq put_same (dNd rfl sS113.one) envNil)))))
      refine all1 (by kernel_rfl) ?_
      intro vs ls H123 E123 st hE
      have b124 : E123 5 = .ptr p2 0 := env_of st.inn hE 5 (by kernel_rfl)
      have b125 : E123 9 = S113 := env_of st.inn hE 9 (by kernel_rfl)
      have b126 : E123 10 = .func 80 [] [.ptr c 0] := env_of st.inn hE 10 (by kernel_rfl)
      have b127 : E123 4 = .ptr p6 0 := env_of st.inn hE 4 (by kernel_rfl)
      have g128 : Grew H114 H123 := (st.kept.grew (Nat.le_of_ble_eq_true (by kernel_rfl)))
      have g129 : Grew H H123 := Grew.trans g119 g128
      have r130 := g128.at r120
      have r131 := g128.at r121
      have r132 := g128.at r122
      have s133 := sS113.grew g128
      clear st hE vs ls
      refine res_kids2 (by kernel_rfl) ?_ ?_
      ·
        refine run_mn (φ := φ0) (pm := pmR 3 [] 0) 20 (nk := [(.atom 0, .flt .f32), (.atom 1, .one), (.atom 2, .int .i64), (.atom 3, .one)]) (fs := []) (xs := [.flt .f32 x, S, .int .i64 t, S113]) (ws := [⟨c, 0, [.nd 2 (.int .i64)], false⟩, ⟨p2, 0, [.nd 0 (.flt .f32), .nd 1 .one], false⟩, ⟨p6, 0, [.lit (.flt .f32 (some 0)), .lit .nilslice], false⟩]) (env := [(5, .ptr 1 0), (9, .nd 3 .one), (10, .fn 80 [] [.ptr 0 0]), (4, .ptr 2 0)]) ?_ ?_ tb_ok ap_ok ?_
        · refine midN_in ?_ .nil _ ?_ ?_ ?_
          · exact (.cons rfl ⟨_, rfl, hx⟩ (.cons rfl (slOne hS) (.cons rfl ⟨_, rfl⟩ (.cons rfl sS113.one .nil))))
          · exact (.cons (win_row r130 (dlCons (dNd rfl ⟨_, rfl⟩) dlNil)) (.cons (win_row r131 (dlCons (dNd rfl ⟨_, rfl, hx⟩) (dlCons (dNd rfl (slOne hS)) dlNil))) (.cons (win_row r132 (dlCons (dLit (by decide +kernel)) (dlCons (dLit rfl) dlNil))) .nil)))
          · exact sepOk_ro rfl
          · exact .nil
        · exact (envEq b124 (dPtr (l := p2) (o := 0) rfl) (envEq b125 (dNd rfl sS113.one) (envEq b126 (dFn' dlNil (dlCons (dPtr (l := c) (o := 0) rfl) dlNil)) (envEq b127 (dPtr (l := p6) (o := 0) rfl) envNil))))
        refine all1 (by kernel_rfl) ?_
        intro vs ls H134 E134 st hE
        have b135 : E134 9 = S113 := env_of st.inn hE 9 (by kernel_rfl)
        have b136 : E134 10 = .func 80 [] [.ptr c 0] := env_of st.inn hE 10 (by kernel_rfl)
        have b137 : E134 6 = .flt .f32 x := env_of st.inn hE 6 (by kernel_rfl)
        have b138 : E134 4 = .ptr p6 0 := env_of st.inn hE 4 (by kernel_rfl)
        have g139 : Grew H123 H134 := (st.kept.grew (Nat.le_of_ble_eq_true (by kernel_rfl)))
        have g140 : Grew H H134 := Grew.trans g129 g139
        have r141 := g139.at r130
        have r142 := g139.at r131
        have r143 := g139.at r132
        have s144 := s133.grew g139
        clear st hE vs ls
        refine res_kidF (d := (some 11)) (f := 85) (args := [.tmp 9, .tmp 10]) (by kernel_rfl) (R := fun z H' => OnlyS S113 H134 H' ∧ SlW H' 9 (ms.filter fun m => !(lastLt t) m) z ∧ ∀ l, AtS z l → AtS S113 l) ?_ ?_
        · show ACalls _ _ [E134 9, E134 10] _ _
          rw [b135, b136]
          exact k_DeleteLast H134 ms hr S113 s144 mxms t c r141 (by assumption)
        rintro S146 H145 ⟨oH145, sS146, uS146⟩
        have fsS146 : FromS H134.next (S113) S146 := ⟨fun l' hl => .inr (uS146 l' hl)⟩
        have ne147 : ApartL (S146) c := fsS146.apartL (H134.lt_of_get r141) (by assumption)
        have ne148 : ApartL (S146) p6 := fsS146.apartL (H134.lt_of_get r143) (by assumption)
        have fr149 : FreshS H.next S146 := fsS146.fresh fr118 g140.next
        have g150 : Grew H H145 := OnlyS.own g140 fr118 oH145
        have r151 := oH145.at r141 (by assumption)
        have r152 := oH145.at r143 (by assumption)
        refine run_mn (φ := φ0) (pm := pmR 1 [] 0) 20 (nk := [(.atom 0, .flt .f32), (.atom 1, .one), (.atom 2, .int .i64), (.atom 3, .one), (.atom 4, .one)]) (fs := []) (xs := [.flt .f32 x, S, .int .i64 t, S113, S146]) (ws := [⟨c, 0, [.nd 2 (.int .i64)], false⟩, ⟨p6, 0, [.lit (.flt .f32 (some 0)), .lit .nilslice], true⟩]) (env := [(9, .nd 3 .one), (10, .fn 80 [] [.ptr 0 0]), (6, .nd 0 (.flt .f32)), (4, .ptr 1 0), (11, .nd 4 .one)]) ?_ ?_ tb_ok ap_ok ?_
        · refine midN_in ?_ .nil _ ?_ ?_ ?_
          · exact (.cons rfl ⟨_, rfl, hx⟩ (.cons rfl (slOne hS) (.cons rfl ⟨_, rfl⟩ (.cons rfl sS113.one (.cons rfl sS146.one .nil)))))
          · exact (.cons (win_row r151 (dlCons (dNd rfl ⟨_, rfl⟩) dlNil)) (.cons (win_own r152 (dlCons (dLit (by decide +kernel)) (dlCons (dLit rfl) dlNil))) .nil))
          · exact ⟨(fun v hv h => (by simp at hv; rcases hv with rfl <;> first | (simp at h; done) | exact Apart.ne (by assumption) | exact (Apart.ne (by assumption)).symm)), ⟨(fun v hv => (by cases hv)), trivial⟩⟩
          · exact .nil
        · exact (envEq (put_ne rfl b135) (dNd rfl sS113.one) (envEq (put_ne rfl b136) (dFn' dlNil (dlCons (dPtr (l := c) (o := 0) rfl) dlNil)) (envEq (put_ne rfl b137) (dNd rfl ⟨_, rfl, hx⟩) (envEq (put_ne rfl b138) (dPtr (l := p6) (o := 0) rfl) (envEq put_same (dNd rfl sS146.one) envNil)))))
        refine all1 (by kernel_rfl) ?_
        intro vs ls H153 E153 st hE
        have gz : Grew H H153 := (grew_own g150 (st.inn.kept) ⟨op6, trivial⟩)
        exact res_ex (by kernel_rfl) (end_same st.inn hE (.inr rfl) (a := .agg [.flt .f32 x, S146]) (by kernel_rfl) gz.next ⟨gz, _, rfl, (sS146.keep st.inn.kept ⟨by assumption, trivial⟩), fr149⟩)
      ·
        refine run_mn (φ := φ0) (pm := pmR 3 [] 0) 20 (nk := [(.atom 0, .flt .f32), (.atom 1, .one), (.atom 2, .int .i64), (.atom 3, .one)]) (fs := []) (xs := [.flt .f32 x, S, .int .i64 t, S113]) (ws := [⟨c, 0, [.nd 2 (.int .i64)], false⟩, ⟨p2, 0, [.nd 0 (.flt .f32), .nd 1 .one], false⟩, ⟨p6, 0, [.lit (.flt .f32 (some 0)), .lit .nilslice], false⟩]) (env := [(5, .ptr 1 0), (9, .nd 3 .one), (10, .fn 80 [] [.ptr 0 0]), (4, .ptr 2 0)]) ?_ ?_ tb_ok ap_ok ?_
        · refine midN_in ?_ .nil _ ?_ ?_ ?_
          · exact (.cons rfl ⟨_, rfl, hx⟩ (.cons rfl (slOne hS) (.cons rfl ⟨_, rfl⟩ (.cons rfl sS113.one .nil))))
          · exact (.cons (win_row r130 (dlCons (dNd rfl ⟨_, rfl⟩) dlNil)) (.cons (win_row r131 (dlCons (dNd rfl ⟨_, rfl, hx⟩) (dlCons (dNd rfl (slOne hS)) dlNil))) (.cons (win_row r132 (dlCons (dLit (by decide +kernel)) (dlCons (dLit rfl) dlNil))) .nil)))
          · exact sepOk_ro rfl
          · exact .nil
        · exact (envEq b124 (dPtr (l := p2) (o := 0) rfl) (envEq b125 (dNd rfl sS113.one) (envEq b126 (dFn' dlNil (dlCons (dPtr (l := c) (o := 0) rfl) dlNil)) (envEq b127 (dPtr (l := p6) (o := 0) rfl) envNil))))
        refine all1 (by kernel_rfl) ?_
        intro vs ls H154 E154 st hE
        have b155 : E154 9 = S113 := env_of st.inn hE 9 (by kernel_rfl)
        have b156 : E154 10 = .func 80 [] [.ptr c 0] := env_of st.inn hE 10 (by kernel_rfl)
        have b157 : E154 5 = .ptr p2 0 := env_of st.inn hE 5 (by kernel_rfl)
        have b158 : E154 4 = .ptr p6 0 := env_of st.inn hE 4 (by kernel_rfl)
        have g159 : Grew H123 H154 := (st.kept.grew (Nat.le_of_ble_eq_true (by kernel_rfl)))
        have g160 : Grew H H154 := Grew.trans g129 g159
        have r161 := g159.at r130
        have r162 := g159.at r131
        have r163 := g159.at r132
        have s164 := s133.grew g159
        clear st hE vs ls
        refine res_kidF (d := (some 11)) (f := 85) (args := [.tmp 9, .tmp 10]) (by kernel_rfl) (R := fun z H' => OnlyS S113 H154 H' ∧ SlW H' 9 (ms.filter fun m => !(lastLt t) m) z ∧ ∀ l, AtS z l → AtS S113 l) ?_ ?_
        · show ACalls _ _ [E154 9, E154 10] _ _
          rw [b155, b156]
          exact k_DeleteLast H154 ms hr S113 s164 mxms t c r161 (by assumption)
        rintro S166 H165 ⟨oH165, sS166, uS166⟩
        have fsS166 : FromS H154.next (S113) S166 := ⟨fun l' hl => .inr (uS166 l' hl)⟩
        have ne167 : ApartL (S166) c := fsS166.apartL (H154.lt_of_get r161) (by assumption)
        have ne168 : ApartL (S166) p2 := fsS166.apartL (H154.lt_of_get r162) (by assumption)
        have ne169 : ApartL (S166) p6 := fsS166.apartL (H154.lt_of_get r163) (by assumption)
        have fr170 : FreshS H.next S166 := fsS166.fresh fr118 g160.next
        have g171 : Grew H H165 := OnlyS.own g160 fr118 oH165
        have r172 := oH165.at r161 (by assumption)
        have r173 := oH165.at r162 (by assumption)
        have r174 := oH165.at r163 (by assumption)
        refine run_mn (φ := φ0) (pm := pmR 2 [] 0) 20 (nk := [(.atom 0, .flt .f32), (.atom 1, .one), (.atom 2, .int .i64), (.atom 3, .one), (.atom 4, .one)]) (fs := []) (xs := [.flt .f32 x, S, .int .i64 t, S113, S166]) (ws := [⟨c, 0, [.nd 2 (.int .i64)], false⟩, ⟨p2, 0, [.nd 0 (.flt .f32), .nd 1 .one], false⟩, ⟨p6, 0, [.lit (.flt .f32 (some 0)), .lit .nilslice], true⟩]) (env := [(9, .nd 3 .one), (10, .fn 80 [] [.ptr 0 0]), (5, .ptr 1 0), (4, .ptr 2 0), (11, .nd 4 .one)]) ?_ ?_ tb_ok ap_ok ?_
        · refine midN_in ?_ .nil _ ?_ ?_ ?_
          · exact (.cons rfl ⟨_, rfl, hx⟩ (.cons rfl (slOne hS) (.cons rfl ⟨_, rfl⟩ (.cons rfl sS113.one (.cons rfl sS166.one .nil)))))
          · exact (.cons (win_row r172 (dlCons (dNd rfl ⟨_, rfl⟩) dlNil)) (.cons (win_row r173 (dlCons (dNd rfl ⟨_, rfl, hx⟩) (dlCons (dNd rfl (slOne hS)) dlNil))) (.cons (win_own r174 (dlCons (dLit (by decide +kernel)) (dlCons (dLit rfl) dlNil))) .nil)))
          · exact ⟨(fun v hv h => (by simp at hv; rcases hv with rfl | rfl <;> first | (simp at h; done) | exact Apart.ne (by assumption) | exact (Apart.ne (by assumption)).symm)), ⟨(fun v hv h => (by simp at hv; rcases hv with rfl <;> first | (simp at h; done) | exact Apart.ne (by assumption) | exact (Apart.ne (by assumption)).symm)), ⟨(fun v hv => (by cases hv)), trivial⟩⟩⟩
          · exact .nil
        · exact (envEq (put_ne rfl b155) (dNd rfl sS113.one) (envEq (put_ne rfl b156) (dFn' dlNil (dlCons (dPtr (l := c) (o := 0) rfl) dlNil)) (envEq (put_ne rfl b157) (dPtr (l := p2) (o := 0) rfl) (envEq (put_ne rfl b158) (dPtr (l := p6) (o := 0) rfl) (envEq put_same (dNd rfl sS166.one) envNil)))))
        refine all1 (by kernel_rfl) ?_
        intro vs ls H175 E175 st hE
        have gz : Grew H H175 := (grew_own g171 (st.inn.kept) ⟨op6, trivial⟩)
        exact res_ex (by kernel_rfl) (end_same st.inn hE (.inr rfl) (a := .agg [.flt .f32 x, S166]) (by kernel_rfl) gz.next ⟨gz, _, rfl, (sS166.keep st.inn.kept ⟨by assumption, trivial⟩), fr170⟩)
theorem k_leavingLight (H : AHeap) (x : Option Nat) (hx : fOk .f32 x) (ms : List (List AV)) (hr : Recs KM ms) (S : AV) (hS : SlL H 9 ms S) (mxms : ms.length ≤ 1048576) (wt : Option Nat) (hw : fOk .f32 wt) (c : Nat) (hg : H.get c = some (.row [.flt .f32 wt] true)) : ACalls Try.prog 79 [.agg [.flt .f32 x, S], .func 82 [] [.ptr c 0]] H fun r H' => Grew H H' ∧ ∃ S', r = .agg [.flt .f32 x, S'] ∧ SlW H' 9 (ms.filter fun m => !(lightB wt) m) S' ∧ FreshS H.next S' := by
  refine res_start h_impl_leaving (by simp) ?_
  refine run_mn (φ := φ0) (pm := pmR 1 [] 0) 20 (nk := [(.atom 0, .flt .f32), (.atom 1, .one), (.atom 2, .flt .f32)]) (fs := []) (xs := [.flt .f32 x, S, .flt .f32 wt]) (ws := [⟨c, 0, [.nd 2 (.flt .f32)], false⟩]) (env := [(0, .agg [.nd 0 (.flt .f32), .nd 1 .one]), (1, .fn 82 [] [.ptr 0 0])]) ?_ ?_ tb_ok ap_ok ?_
  · refine midN_in ?_ .nil _ ?_ ?_ ?_
    · exact (.cons rfl ⟨_, rfl, hx⟩ (.cons rfl (slOne hS) (.cons rfl ⟨_, rfl, hw⟩ .nil)))
    · exact (.cons (win_row hg (dlCons (dNd rfl ⟨_, rfl, hw⟩) dlNil)) .nil)
    · exact sepOk_ro rfl
    · exact .nil
  · exact (envEq rfl (dAgg (dlCons (dNd rfl ⟨_, rfl, hx⟩) (dlCons (dNd rfl (slOne hS)) dlNil))) (envEq rfl (dFn' dlNil (dlCons (dPtr (l := c) (o := 0) rfl) dlNil)) envNil))
  refine all1 (by kernel_rfl) ?_
  intro vs ls H1 E1 st hE
  obtain ⟨p2, e3, r4, n5⟩ := ptr_of st.inn hE 5 1 (by kernel_rfl) (ds := [.flt .f32 x, S]) (by kernel_rfl)
  have op2 : H.next ≤ p2 := Nat.le_trans (Nat.le_refl _) (n5 (Nat.le_of_ble_eq_true rfl))
  obtain ⟨p6, e7, r8, n9⟩ := ptr_of st.inn hE 4 2 (by kernel_rfl) (ds := [.flt .f32 (some 0), .nilslice]) (by kernel_rfl)
  have op6 : H.next ≤ p6 := Nat.le_trans (Nat.le_refl _) (n9 (Nat.le_of_ble_eq_true rfl))
  have ne10 : Apart p2 p6 := ⟨ptr_ne st.inn hE 5 1 4 2 (by kernel_rfl) (by kernel_rfl) (cs := [.nd 0 (.flt .f32), .nd 1 .one]) (by kernel_rfl) (by decide) e3 e7⟩
  have ne11 : Apart p2 c := ⟨Nat.ne_of_gt (Nat.lt_of_lt_of_le (H.lt_of_get hg) (n5 (Nat.le_of_ble_eq_true rfl)))⟩
  have ne12 : Apart p6 c := ⟨Nat.ne_of_gt (Nat.lt_of_lt_of_le (H.lt_of_get hg) (n9 (Nat.le_of_ble_eq_true rfl)))⟩
  have b13 : E1 7 = .ptr p2 1 := ptr_off st.inn hE 7 1 1 (by kernel_rfl) 5 (by kernel_rfl) e3
  have b14 : E1 10 = .func 82 [] [.ptr c 0] := env_of st.inn hE 10 (by kernel_rfl)
  have b15 : E1 2 = .ptr p2 0 := ptr_off st.inn hE 2 1 0 (by kernel_rfl) 5 (by kernel_rfl) e3
  have g16 : Grew H H1 := (st.kept.grew (Nat.le_of_ble_eq_true (by kernel_rfl)))
  have g17 : Grew H H1 := Grew.trans (Grew.refl _) g16
  have r18 := g16.at hg
  clear st hE vs ls
  refine res_kids2 (by kernel_rfl) ?_ ?_
  ·
    refine run_mn (φ := φ0) (pm := pmR 3 [] 0) 20 (nk := [(.atom 0, .flt .f32), (.atom 1, .one), (.atom 2, .flt .f32)]) (fs := []) (xs := [.flt .f32 x, S, .flt .f32 wt]) (ws := [⟨c, 0, [.nd 2 (.flt .f32)], false⟩, ⟨p2, 0, [.nd 0 (.flt .f32), .nd 1 .one], false⟩, ⟨p6, 0, [.lit (.flt .f32 (some 0)), .lit .nilslice], false⟩]) (env := [(5, .ptr 1 0), (7, .ptr 1 1), (10, .fn 82 [] [.ptr 0 0]), (4, .ptr 2 0), (2, .ptr 1 0)]) ?_ ?_ tb_ok ap_ok ?_
    · refine midN_in ?_ .nil _ ?_ ?_ ?_
      · exact (.cons rfl ⟨_, rfl, hx⟩ (.cons rfl (slOne hS) (.cons rfl ⟨_, rfl, hw⟩ .nil)))
      · exact (.cons (win_row r18 (dlCons (dNd rfl ⟨_, rfl, hw⟩) dlNil)) (.cons (win_row r4 (dlCons (dNd rfl ⟨_, rfl, hx⟩) (dlCons (dNd rfl (slOne hS)) dlNil))) (.cons (win_row r8 (dlCons (dLit (by decide +kernel)) (dlCons (dLit rfl) dlNil))) .nil)))
      · exact sepOk_ro rfl
      · exact .nil
    · exact (envEq e3 (dPtr (l := p2) (o := 0) rfl) (envEq b13 (dPtr (l := p2) (o := 0) rfl) (envEq b14 (dFn' dlNil (dlCons (dPtr (l := c) (o := 0) rfl) dlNil)) (envEq e7 (dPtr (l := p6) (o := 0) rfl) (envEq b15 (dPtr (l := p2) (o := 0) rfl) envNil)))))
    refine all1 (by kernel_rfl) ?_
    intro vs ls H19 E19 st hE
    have b20 : E19 8 = S := env_of st.inn hE 8 (by kernel_rfl)
    have b21 : E19 10 = .func 82 [] [.ptr c 0] := env_of st.inn hE 10 (by kernel_rfl)
    have b22 : E19 6 = .flt .f32 x := env_of st.inn hE 6 (by kernel_rfl)
    have b23 : E19 4 = .ptr p6 0 := env_of st.inn hE 4 (by kernel_rfl)
    have g24 : Grew H1 H19 := (st.kept.grew (Nat.le_of_ble_eq_true (by kernel_rfl)))
    have g25 : Grew H H19 := Grew.trans g17 g24
    have r26 := g24.at r18
    have r27 := g24.at r4
    have r28 := g24.at r8
    clear st hE vs ls
    refine res_kidF (d := (some 9)) (f := 86) (args := [.tmp 8]) (by kernel_rfl) (R := fun z H' => Grew H19 H' ∧ SlF H' 9 ms z ∧ FreshS H19.next z) ?_ ?_
    · show ACalls _ _ [E19 8] _ _
      rw [b20]
      exact k_CloneM H19 ms hr (S) (hS.grew g25) mxms
    rintro S29 H30 ⟨gS29, sS29, fS29⟩
    have ne31 : ApartL (S29) c := fS29.apartL (H19.lt_of_get r26)
    have ne32 : ApartL (S29) p6 := fS29.apartL (H19.lt_of_get r28)
    have fr33 : FreshS H.next (S29) := fS29.mono g25.next
    have g34 : Grew H H30 := Grew.trans g25 gS29
    have r35 := gS29.at r26
    have r36 := gS29.at r28
    refine run_mn (φ := φ0) (pm := pmR 2 [] 0) 20 (nk := [(.atom 0, .flt .f32), (.atom 1, .one), (.atom 2, .flt .f32), (.atom 3, .one)]) (fs := []) (xs := [.flt .f32 x, S, .flt .f32 wt, S29]) (ws := [⟨c, 0, [.nd 2 (.flt .f32)], false⟩, ⟨p6, 0, [.lit (.flt .f32 (some 0)), .lit .nilslice], false⟩]) (env := [(8, .nd 1 .one), (10, .fn 82 [] [.ptr 0 0]), (6, .nd 0 (.flt .f32)), (4, .ptr 1 0), (9, .nd 3 .one)]) ?_ ?_ tb_ok ap_ok ?_
    · refine midN_in ?_ .nil _ ?_ ?_ ?_
      · exact (.cons rfl ⟨_, rfl, hx⟩ (.cons rfl (slOne hS) (.cons rfl ⟨_, rfl, hw⟩ (.cons rfl sS29.one .nil))))
      · exact (.cons (win_row r35 (dlCons (dNd rfl ⟨_, rfl, hw⟩) dlNil)) (.cons (win_row r36 (dlCons (dLit (by decide +kernel)) (dlCons (dLit rfl) dlNil))) .nil))
      · exact sepOk_ro rfl
      · exact .nil
    · exact (envEq (put_ne rfl b20) (dNd rfl (slOne hS)) (envEq (put_ne rfl b21) (dFn' dlNil (dlCons (dPtr (l := c) (o := 0) rfl) dlNil)) (envEq (put_ne rfl b22) (dNd rfl ⟨_, rfl, hx⟩) (envEq (put_ne rfl b23) (dPtr (l := p6) (o := 0) rfl) (envEq put_same (dNd rfl sS29.one) envNil)))))
    refine all1 (by kernel_rfl) ?_
    intro vs ls H37 E37 st hE
    have b38 : E37 9 = S29 := env_of st.inn hE 9 (by kernel_rfl)
    have b39 : E37 10 = .func 82 [] [.ptr c 0] := env_of st.inn hE 10 (by kernel_rfl)
    have b40 : E37 6 = .flt .f32 x := env_of st.inn hE 6 (by kernel_rfl)
    have b41 : E37 4 = .ptr p6 0 := env_of st.inn hE 4 (by kernel_rfl)
    have g42 : Grew H30 H37 := (st.kept.grew (Nat.le_of_ble_eq_true (by kernel_rfl)))
    have g43 : Grew H H37 := Grew.trans g34 g42
    have r44 := g42.at r35
    have r45 := g42.at r36
    have s46 := sS29.grew g42
    clear st hE vs ls
    refine res_kidF (d := (some 11)) (f := 85) (args := [.tmp 9, .tmp 10]) (by kernel_rfl) (R := fun z H' => OnlyS S29 H37 H' ∧ SlW H' 9 (ms.filter fun m => !(lightB wt) m) z ∧ ∀ l, AtS z l → AtS S29 l) ?_ ?_
    · show ACalls _ _ [E37 9, E37 10] _ _
      rw [b38, b39]
      exact k_DeleteLight H37 ms hr S29 s46 mxms wt hw c r44 (by assumption)
    rintro S48 H47 ⟨oH47, sS48, uS48⟩
    have fsS48 : FromS H37.next (S29) S48 := ⟨fun l' hl => .inr (uS48 l' hl)⟩
    have ne49 : ApartL (S48) c := fsS48.apartL (H37.lt_of_get r44) (by assumption)
    have ne50 : ApartL (S48) p6 := fsS48.apartL (H37.lt_of_get r45) (by assumption)
    have fr51 : FreshS H.next S48 := fsS48.fresh fr33 g43.next
    have g52 : Grew H H47 := OnlyS.own g43 fr33 oH47
    have r53 := oH47.at r44 (by assumption)
    have r54 := oH47.at r45 (by assumption)
    refine run_mn (φ := φ0) (pm := pmR 1 [] 0) 20 (nk := [(.atom 0, .flt .f32), (.atom 1, .one), (.atom 2, .flt .f32), (.atom 3, .one), (.atom 4, .one)]) (fs := []) (xs := [.flt .f32 x, S, .flt .f32 wt, S29, S48]) (ws := [⟨c, 0, [.nd 2 (.flt .f32)], false⟩, ⟨p6, 0, [.lit (.flt .f32 (some 0)), .lit .nilslice], true⟩]) (env := [(9, .nd 3 .one), (10, .fn 82 [] [.ptr 0 0]), (6, .nd 0 (.flt .f32)), (4, .ptr 1 0), (11, .nd 4 .one)]) ?_ ?_ tb_ok ap_ok ?_
    · refine midN_in ?_ .nil _ ?_ ?_ ?_
      · exact (.cons rfl ⟨_, rfl, hx⟩ (.cons rfl (slOne hS) (.cons rfl ⟨_, rfl, hw⟩ (.cons rfl sS29.one (.cons rfl sS48.one .nil)))))
      · exact (.cons (win_row r53 (dlCons (dNd rfl ⟨_, rfl, hw⟩) dlNil)) (.cons (win_own r54 (dlCons (dLit (by decide +kernel)) (dlCons (dLit rfl) dlNil))) .nil))
      · exact ⟨(fun v hv h => (by simp at hv; rcases hv with rfl <;> first | (simp at h; done) | exact Apart.ne (by assumption) | exact (Apart.ne (by assumption)).symm)), ⟨(fun v hv => (by cases hv)), trivial⟩⟩
      · exact .nil
    · exact (envEq (put_ne rfl b38) (dNd rfl sS29.one) (envEq (put_ne rfl b39) (dFn' dlNil (dlCons (dPtr (l := c) (o := 0) rfl) dlNil)) (envEq (put_ne rfl b40) (dNd rfl ⟨_, rfl, hx⟩) (envEq (put_ne rfl b41) (dPtr (l := p6) (o := 0) rfl) (envEq put_same (dNd rfl sS48.one) envNil)))))
    refine all1 (by kernel_rfl) ?_
    intro vs ls H55 E55 st hE
    have gz : Grew H H55 := (grew_own g52 (st.inn.kept) ⟨op6, trivial⟩)
    exact res_ex (by kernel_rfl) (end_same st.inn hE (.inr rfl) (a := .agg [.flt .f32 x, S48]) (by kernel_rfl) gz.next ⟨gz, _, rfl, (sS48.keep st.inn.kept ⟨by assumption, trivial⟩), fr51⟩)
  ·
    refine run_mn (φ := φ0) (pm := pmR 3 [] 0) 20 (nk := [(.atom 0, .flt .f32), (.atom 1, .one), (.atom 2, .flt .f32)]) (fs := []) (xs := [.flt .f32 x, S, .flt .f32 wt]) (ws := [⟨c, 0, [.nd 2 (.flt .f32)], false⟩, ⟨p2, 0, [.nd 0 (.flt .f32), .nd 1 .one], false⟩, ⟨p6, 0, [.lit (.flt .f32 (some 0)), .lit .nilslice], false⟩]) (env := [(5, .ptr 1 0), (7, .ptr 1 1), (10, .fn 82 [] [.ptr 0 0]), (4, .ptr 2 0), (2, .ptr 1 0)]) ?_ ?_ tb_ok ap_ok ?_
    · refine midN_in ?_ .nil _ ?_ ?_ ?_
      · exact (.cons rfl ⟨_, rfl, hx⟩ (.cons rfl (slOne hS) (.cons rfl ⟨_, rfl, hw⟩ .nil)))
      · exact (.cons (win_row r18 (dlCons (dNd rfl ⟨_, rfl, hw⟩) dlNil)) (.cons (win_row r4 (dlCons (dNd rfl ⟨_, rfl, hx⟩) (dlCons (dNd rfl (slOne hS)) dlNil))) (.cons (win_row r8 (dlCons (dLit (by decide +kernel)) (dlCons (dLit rfl) dlNil))) .nil)))
      · exact sepOk_ro rfl
      · exact .nil
    · exact (envEq e3 (dPtr (l := p2) (o := 0) rfl) (envEq b13 (dPtr (l := p2) (o := 0) rfl) (envEq b14 (dFn' dlNil (dlCons (dPtr (l := c) (o := 0) rfl) dlNil)) (envEq e7 (dPtr (l := p6) (o := 0) rfl) (envEq b15 (dPtr (l := p2) (o := 0) rfl) envNil)))))
    refine all1 (by kernel_rfl) ?_
    intro vs ls H56 E56 st hE
    have b57 : E56 5 = .ptr p2 0 := env_of st.inn hE 5 (by kernel_rfl)
    have b58 : E56 8 = S := env_of st.inn hE 8 (by kernel_rfl)
    have b59 : E56 10 = .func 82 [] [.ptr c 0] := env_of st.inn hE 10 (by kernel_rfl)
    have b60 : E56 4 = .ptr p6 0 := env_of st.inn hE 4 (by kernel_rfl)
    have g61 : Grew H1 H56 := (st.kept.grew (Nat.le_of_ble_eq_true (by kernel_rfl)))
    have g62 : Grew H H56 := Grew.trans g17 g61
    have r63 := g61.at r18
    have r64 := g61.at r4
    have r65 := g61.at r8
    clear st hE vs ls
    refine res_kids2 (by kernel_rfl) ?_ ?_
    ·
      refine run_mn (φ := φ0) (pm := pmR 3 [] 0) 20 (nk := [(.atom 0, .flt .f32), (.atom 1, .one), (.atom 2, .flt .f32)]) (fs := []) (xs := [.flt .f32 x, S, .flt .f32 wt]) (ws := [⟨c, 0, [.nd 2 (.flt .f32)], false⟩, ⟨p2, 0, [.nd 0 (.flt .f32), .nd 1 .one], false⟩, ⟨p6, 0, [.lit (.flt .f32 (some 0)), .lit .nilslice], false⟩]) (env := [(5, .ptr 1 0), (8, .nd 1 .one), (10, .fn 82 [] [.ptr 0 0]), (4, .ptr 2 0)]) ?_ ?_ tb_ok ap_ok ?_
      · refine midN_in ?_ .nil _ ?_ ?_ ?_
        · exact (.cons rfl ⟨_, rfl, hx⟩ (.cons rfl (slOne hS) (.cons rfl ⟨_, rfl, hw⟩ .nil)))
        · exact (.cons (win_row r63 (dlCons (dNd rfl ⟨_, rfl, hw⟩) dlNil)) (.cons (win_row r64 (dlCons (dNd rfl ⟨_, rfl, hx⟩) (dlCons (dNd rfl (slOne hS)) dlNil))) (.cons (win_row r65 (dlCons (dLit (by decide +kernel)) (dlCons (dLit rfl) dlNil))) .nil)))
        · exact sepOk_ro rfl
        · exact .nil
      · exact (envEq b57 (dPtr (l := p2) (o := 0) rfl) (envEq b58 (dNd rfl (slOne hS)) (envEq b59 (dFn' dlNil (dlCons (dPtr (l := c) (o := 0) rfl) dlNil)) (envEq b60 (dPtr (l := p6) (o := 0) rfl) envNil))))
      refine all1 (by kernel_rfl) ?_
      intro vs ls H66 E66 st hE
      have b67 : E66 8 = S := env_of st.inn hE 8 (by kernel_rfl)
      have b68 : E66 10 = .func 82 [] [.ptr c 0] := env_of st.inn hE 10 (by kernel_rfl)
      have b69 : E66 6 = .flt .f32 x := env_of st.inn hE 6 (by kernel_rfl)
      have b70 : E66 4 = .ptr p6 0 := env_of st.inn hE 4 (by kernel_rfl)
      have g71 : Grew H56 H66 := (st.kept.grew (Nat.le_of_ble_eq_true (by kernel_rfl)))
      have g72 : Grew H H66 := Grew.trans g62 g71
      have r73 := g71.at r63
      have r74 := g71.at r64
      have r75 := g71.at r65
      clear st hE vs ls
      refine res_kidF (d := (some 9)) (f := 86) (args := [.tmp 8]) (by kernel_rfl) (R := fun z H' => Grew H66 H' ∧ SlF H' 9 ms z ∧ FreshS H66.next z) ?_ ?_
      · show ACalls _ _ [E66 8] _ _
        rw [b67]
        exact k_CloneM H66 ms hr (S) (hS.grew g72) mxms
      rintro S76 H77 ⟨gS76, sS76, fS76⟩
      have ne78 : ApartL (S76) c := fS76.apartL (H66.lt_of_get r73)
      have ne79 : ApartL (S76) p6 := fS76.apartL (H66.lt_of_get r75)
      have fr80 : FreshS H.next (S76) := fS76.mono g72.next
      have g81 : Grew H H77 := Grew.trans g72 gS76
      have r82 := gS76.at r73
      have r83 := gS76.at r75
      refine run_mn (φ := φ0) (pm := pmR 2 [] 0) 20 (nk := [(.atom 0, .flt .f32), (.atom 1, .one), (.atom 2, .flt .f32), (.atom 3, .one)]) (fs := []) (xs := [.flt .f32 x, S, .flt .f32 wt, S76]) (ws := [⟨c, 0, [.nd 2 (.flt .f32)], false⟩, ⟨p6, 0, [.lit (.flt .f32 (some 0)), .lit .nilslice], false⟩]) (env := [(8, .nd 1 .one), (10, .fn 82 [] [.ptr 0 0]), (6, .nd 0 (.flt .f32)), (4, .ptr 1 0), (9, .nd 3 .one)]) ?_ ?_ tb_ok ap_ok ?_
      · refine midN_in ?_ .nil _ ?_ ?_ ?_
        · exact (.cons rfl ⟨_, rfl, hx⟩ (.cons rfl (slOne hS) (.cons rfl ⟨_, rfl, hw⟩ (.cons rfl sS76.one .nil))))
        · exact (.cons (win_row r82 (dlCons (dNd rfl ⟨_, rfl, hw⟩) dlNil)) (.cons (win_row r83 (dlCons (dLit (by decide +kernel)) (dlCons (dLit rfl) dlNil))) .nil))
        · exact sepOk_ro rfl
        · exact .nil
      · exact (envEq (put_ne rfl b67) (dNd rfl (slOne hS)) (envEq (put_ne rfl b68) (dFn' dlNil (dlCons (dPtr (l := c) (o := 0) rfl) dlNil)) (envEq (put_ne rfl b69) (dNd rfl ⟨_, rfl, hx⟩) (envEq (put_ne rfl b70) (dPtr (l := p6) (o := 0) rfl) (envEq put_same (dNd rfl sS76.one) envNil)))))
      refine all1 (by kernel_rfl) ?_
      intro vs ls H84 E84 st hE
      have b85 : E84 9 = S76 := env_of st.inn hE 9 (by kernel_rfl)
      have b86 : E84 10 = .func 82 [] [.ptr c 0] := env_of st.inn hE 10 (by kernel_rfl)
      have b87 : E84 6 = .flt .f32 x := env_of st.inn hE 6 (by kernel_rfl)
      have b88 : E84 4 = .ptr p6 0 := env_of st.inn hE 4 (by kernel_rfl)
      have g89 : Grew H77 H84 := (st.kept.grew (Nat.le_of_ble_eq_true (by kernel_rfl)))
      have g90 : Grew H H84 := Grew.trans g81 g89
      have r91 := g89.at r82
      have r92 := g89.at r83
      have s93 := sS76.grew g89
      clear st hE vs ls
      refine res_kidF (d := (some 11)) (f := 85) (args := [.tmp 9, .tmp 10]) (by kernel_rfl) (R := fun z H' => OnlyS S76 H84 H' ∧ SlW H' 9 (ms.filter fun m => !(lightB wt) m) z ∧ ∀ l, AtS z l → AtS S76 l) ?_ ?_
      · show ACalls _ _ [E84 9, E84 10] _ _
        rw [b85, b86]
        exact k_DeleteLight H84 ms hr S76 s93 mxms wt hw c r91 (by assumption)
      rintro S95 H94 ⟨oH94, sS95, uS95⟩
      have fsS95 : FromS H84.next (S76) S95 := ⟨fun l' hl => .inr (uS95 l' hl)⟩
      have ne96 : ApartL (S95) c := fsS95.apartL (H84.lt_of_get r91) (by assumption)
      have ne97 : ApartL (S95) p6 := fsS95.apartL (H84.lt_of_get r92) (by assumption)
      have fr98 : FreshS H.next S95 := fsS95.fresh fr80 g90.next
      have g99 : Grew H H94 := OnlyS.own g90 fr80 oH94
      have r100 := oH94.at r91 (by assumption)
      have r101 := oH94.at r92 (by assumption)
      refine run_mn (φ := φ0) (pm := pmR 1 [] 0) 20 (nk := [(.atom 0, .flt .f32), (.atom 1, .one), (.atom 2, .flt .f32), (.atom 3, .one), (.atom 4, .one)]) (fs := []) (xs := [.flt .f32 x, S, .flt .f32 wt, S76, S95]) (ws := [⟨c, 0, [.nd 2 (.flt .f32)], false⟩, ⟨p6, 0, [.lit (.flt .f32 (some 0)), .lit .nilslice], true⟩]) (env := [(9, .nd 3 .one), (10, .fn 82 [] [.ptr 0 0]), (6, .nd 0 (.flt .f32)), (4, .ptr 1 0), (11, .nd 4 .one)]) ?_ ?_ tb_ok ap_ok ?_
      · refine midN_in ?_ .nil _ ?_ ?_ ?_
        · exact (.cons rfl ⟨_, rfl, hx⟩ (.cons rfl (slOne hS) (.cons rfl ⟨_, rfl, hw⟩ (.cons rfl sS76.one (.cons rfl sS95.one .nil)))))
        · exact (.cons (win_row r100 (dlCons (dNd rfl ⟨_, rfl, hw⟩) dlNil)) (.cons (win_own r101 (dlCons (dLit (by decide +kernel)) (dlCons (dLit rfl) dlNil))) .nil))
        · exact ⟨(fun v hv h => (by simp at hv; rcases hv with rfl <;> first | (simp at h; done) | exact Apart.ne (by assumption) | exact (Apart.ne (by assumption)).symm)), ⟨(fun v hv => (by cases hv)), trivial⟩⟩
        · exact .nil
      · exact (envEq (put_ne rfl b85) (dNd rfl sS76.one) (envEq (put_ne rfl b86) (dFn' dlNil (dlCons (dPtr (l := c) (o := 0) rfl) dlNil)) (envEq (put_ne rfl b87) (dNd rfl ⟨_, rfl, hx⟩) (envEq (put_ne rfl b88) (dPtr (l := p6) (o := 0) rfl) (envEq put_same (dNd rfl sS95.one) envNil)))))
      refine all1 (by kernel_rfl) ?_
      intro vs ls H102 E102 st hE
      have gz : Grew H H102 := (grew_own g99 (st.inn.kept) ⟨op6, trivial⟩)
      exact res_ex (by kernel_rfl) (end_same st.inn hE (.inr rfl) (a := .agg [.flt .f32 x, S95]) (by kernel_rfl) gz.next ⟨gz, _, rfl, (sS95.keep st.inn.kept ⟨by assumption, trivial⟩), fr98⟩)
    ·
      refine run_mn (φ := φ0) (pm := pmR 3 [] 0) 20 (nk := [(.atom 0, .flt .f32), (.atom 1, .one), (.atom 2, .flt .f32)]) (fs := []) (xs := [.flt .f32 x, S, .flt .f32 wt]) (ws := [⟨c, 0, [.nd 2 (.flt .f32)], false⟩, ⟨p2, 0, [.nd 0 (.flt .f32), .nd 1 .one], false⟩, ⟨p6, 0, [.lit (.flt .f32 (some 0)), .lit .nilslice], false⟩]) (env := [(5, .ptr 1 0), (8, .nd 1 .one), (10, .fn 82 [] [.ptr 0 0]), (4, .ptr 2 0)]) ?_ ?_ tb_ok ap_ok ?_
      · refine midN_in ?_ .nil _ ?_ ?_ ?_
        · exact (.cons rfl ⟨_, rfl, hx⟩ (.cons rfl (slOne hS) (.cons rfl ⟨_, rfl, hw⟩ .nil)))
        · exact (.cons (win_row r63 (dlCons (dNd rfl ⟨_, rfl, hw⟩) dlNil)) (.cons (win_row r64 (dlCons (dNd rfl ⟨_, rfl, hx⟩) (dlCons (dNd rfl (slOne hS)) dlNil))) (.cons (win_row r65 (dlCons (dLit (by decide +kernel)) (dlCons (dLit rfl) dlNil))) .nil)))
        · exact sepOk_ro rfl
        · exact .nil
      · exact (envEq b57 (dPtr (l := p2) (o := 0) rfl) (envEq b58 (dNd rfl (slOne hS)) (envEq b59 (dFn' dlNil (dlCons (dPtr (l := c) (o := 0) rfl) dlNil)) (envEq b60 (dPtr (l := p6) (o := 0) rfl) envNil))))
      refine all1 (by kernel_rfl) ?_
      intro vs ls H103 E103 st hE
      have b104 : E103 8 = S := env_of st.inn hE 8 (by kernel_rfl)
      have b105 : E103 5 = .ptr p2 0 := env_of st.inn hE 5 (by kernel_rfl)
      have b106 : E103 10 = .func 82 [] [.ptr c 0] := env_of st.inn hE 10 (by kernel_rfl)
      have b107 : E103 4 = .ptr p6 0 := env_of st.inn hE 4 (by kernel_rfl)
      have g108 : Grew H56 H103 := (st.kept.grew (Nat.le_of_ble_eq_true (by kernel_rfl)))
      have g109 : Grew H H103 := Grew.trans g62 g108
      have r110 := g108.at r63
      have r111 := g108.at r64
      have r112 := g108.at r65
      clear st hE vs ls
      refine res_kidF (d := (some 9)) (f := 86) (args := [.tmp 8]) (by kernel_rfl) (R := fun z H' => Grew H103 H' ∧ SlF H' 9 ms z ∧ FreshS H103.next z) ?_ ?_
      · show ACalls _ _ [E103 8] _ _
        rw [b104]
        exact k_CloneM H103 ms hr (S) (hS.grew g109) mxms
      rintro S113 H114 ⟨gS113, sS113, fS113⟩
      have ne115 : ApartL (S113) c := fS113.apartL (H103.lt_of_get r110)
      have ne116 : ApartL (S113) p2 := fS113.apartL (H103.lt_of_get r111)
      have ne117 : ApartL (S113) p6 := fS113.apartL (H103.lt_of_get r112)
      have fr118 : FreshS H.next (S113) := fS113.mono g109.next
      have g119 : Grew H H114 := Grew.trans g109 gS113
      have r120 := gS113.at r110
      have r121 := gS113.at r111
      have r122 := gS113.at r112
      refine run_mn (φ := φ0) (pm := pmR 3 [] 0) 20 (nk := [(.atom 0, .flt .f32), (.atom 1, .one), (.atom 2, .flt .f32), (.atom 3, .one)]) (fs := []) (xs := [.flt .f32 x, S, .flt .f32 wt, S113]) (ws := [⟨c, 0, [.nd 2 (.flt .f32)], false⟩, ⟨p2, 0, [.nd 0 (.flt .f32), .nd 1 .one], false⟩, ⟨p6, 0, [.lit (.flt .f32 (some 0)), .lit .nilslice], false⟩]) (env := [(8, .nd 1 .one), (5, .ptr 1 0), (10, .fn 82 [] [.ptr 0 0]), (4, .ptr 2 0), (9, .nd 3 .one)]) ?_ ?_ tb_ok ap_ok ?_
      · refine midN_in ?_ .nil _ ?_ ?_ ?_
        · exact (.cons rfl ⟨_, rfl, hx⟩ (.cons rfl (slOne hS) (.cons rfl ⟨_, rfl, hw⟩ (.cons rfl sS113.one .nil))))
        · exact (.cons (win_row r120 (dlCons (dNd rfl ⟨_, rfl, hw⟩) dlNil)) (.cons (win_row r121 (dlCons (dNd rfl ⟨_, rfl, hx⟩) (dlCons (dNd rfl (slOne hS)) dlNil))) (.cons (win_row r122 (dlCons (dLit (by decide +kernel)) (dlCons (dLit rfl) dlNil))) .nil)))
        · exact sepOk_ro rfl
        · exact .nil
      · exact (envEq (put_ne rfl b104) (dNd rfl (slOne hS)) (envEq (put_ne rfl b105) (dPtr (l := p2) (o := 0) rfl) (envEq (put_ne rfl b106) (dFn' dlNil (dlCons (dPtr (l := c) (o := 0) rfl) dlNil)) (envEq (put_ne rfl b107) (dPtr (l := p6) (o := 0) rfl) (envEq put_same (dNd rfl sS113.one) envNil)))))
      refine all1 (by kernel_rfl) ?_
      intro vs ls H123 E123 st hE
      have b124 : E123 5 = .ptr p2 0 := env_of st.inn hE 5 (by kernel_rfl)
      have b125 : E123 9 = S113 := env_of st.inn hE 9 (by kernel_rfl)
      have b126 : E123 10 = .func 82 [] [.ptr c 0] := env_of st.inn hE 10 (by kernel_rfl)
      have b127 : E123 4 = .ptr p6 0 := env_of st.inn hE 4 (by kernel_rfl)
      have g128 : Grew H114 H123 := (st.kept.grew (Nat.le_of_ble_eq_true (by kernel_rfl)))
      have g129 : Grew H H123 := Grew.trans g119 g128
      have r130 := g128.at r120
      have r131 := g128.at r121
      have r132 := g128.at r122
      have s133 := sS113.grew g128
      clear st hE vs ls
      refine res_kids2 (by kernel_rfl) ?_ ?_
      ·
        refine run_mn (φ := φ0) (pm := pmR 3 [] 0) 20 (nk := [(.atom 0, .flt .f32), (.atom 1, .one), (.atom 2, .flt .f32), (.atom 3, .one)]) (fs := []) (xs := [.flt .f32 x, S, .flt .f32 wt, S113]) (ws := [⟨c, 0, [.nd 2 (.flt .f32)], false⟩, ⟨p2, 0, [.nd 0 (.flt .f32), .nd 1 .one], false⟩, ⟨p6, 0, [.lit (.flt .f32 (some 0)), .lit .nilslice], false⟩]) (env := [(5, .ptr 1 0), (9, .nd 3 .one), (10, .fn 82 [] [.ptr 0 0]), (4, .ptr 2 0)]) ?_ ?_ tb_ok ap_ok ?_
        · refine midN_in ?_ .nil _ ?_ ?_ ?_
          · exact (.cons rfl ⟨_, rfl, hx⟩ (.cons rfl (slOne hS) (.cons rfl ⟨_, rfl, hw⟩ (.cons rfl sS113.one .nil))))
          · exact (.cons (win_row r130 (dlCons (dNd rfl ⟨_, rfl, hw⟩) dlNil)) (.cons (win_row r131 (dlCons (dNd rfl ⟨_, rfl, hx⟩) (dlCons (dNd rfl (slOne hS)) dlNil))) (.cons (win_row r132 (dlCons (dLit (by decide +kernel)) (dlCons (dLit rfl) dlNil))) .nil)))
          · exact sepOk_ro rfl
          · exact .nil
        · exact (envEq b124 (dPtr (l := p2) (o := 0) rfl) (envEq b125 (dNd rfl sS113.one) (envEq b126 (dFn' dlNil (dlCons (dPtr (l := c) (o := 0) rfl) dlNil)) (envEq b127 (dPtr (l := p6) (o := 0) rfl) envNil))))
        refine all1 (by kernel_rfl) ?_
        intro vs ls H134 E134 st hE
        have b135 : E134 9 = S113 := env_of st.inn hE 9 (by kernel_rfl)
        have b136 : E134 10 = .func 82 [] [.ptr c 0] := env_of st.inn hE 10 (by kernel_rfl)
        have b137 : E134 6 = .flt .f32 x := env_of st.inn hE 6 (by kernel_rfl)
        have b138 : E134 4 = .ptr p6 0 := env_of st.inn hE 4 (by kernel_rfl)
        have g139 : Grew H123 H134 := (st.kept.grew (Nat.le_of_ble_eq_true (by kernel_rfl)))
        have g140 : Grew H H134 := Grew.trans g129 g139
        have r141 := g139.at r130
        have r142 := g139.at r131
        have r143 := g139.at r132
        have s144 := s133.grew g139
        clear st hE vs ls
        refine res_kidF (d := (some 11)) (f := 85) (args := [.tmp 9, .tmp 10]) (by kernel_rfl) (R := fun z H' => OnlyS S113 H134 H' ∧ SlW H' 9 (ms.filter fun m => !(lightB wt) m) z ∧ ∀ l, AtS z l → AtS S113 l) ?_ ?_
        · show ACalls _ _ [E134 9, E134 10] _ _
          rw [b135, b136]
          exact k_DeleteLight H134 ms hr S113 s144 mxms wt hw c r141 (by assumption)
        rintro S146 H145 ⟨oH145, sS146, uS146⟩
        have fsS146 : FromS H134.next (S113) S146 := ⟨fun l' hl => .inr (uS146 l' hl)⟩
        have ne147 : ApartL (S146) c := fsS146.apartL (H134.lt_of_get r141) (by assumption)
        have ne148 : ApartL (S146) p6 := fsS146.apartL (H134.lt_of_get r143) (by assumption)
        have fr149 : FreshS H.next S146 := fsS146.fresh fr118 g140.next
        have g150 : Grew H H145 := OnlyS.own g140 fr118 oH145
        have r151 := oH145.at r141 (by assumption)
        have r152 := oH145.at r143 (by assumption)
        refine run_mn (φ := φ0) (pm := pmR 1 [] 0) 20 (nk := [(.atom 0, .flt .f32), (.atom 1, .one), (.atom 2, .flt .f32), (.atom 3, .one), (.atom 4, .one)]) (fs := []) (xs := [.flt .f32 x, S, .flt .f32 wt, S113, S146]) (ws := [⟨c, 0, [.nd 2 (.flt .f32)], false⟩, ⟨p6, 0, [.lit (.flt .f32 (some 0)), .lit .nilslice], true⟩]) (env := [(9, .nd 3 .one), (10, .fn 82 [] [.ptr 0 0]), (6, .nd 0 (.flt .f32)), (4, .ptr 1 0), (11, .nd 4 .one)]) ?_ ?_ tb_ok ap_ok ?_
        · refine midN_in ?_ .nil _ ?_ ?_ ?_
          · exact (.cons rfl ⟨_, rfl, hx⟩ (.cons rfl (slOne hS) (.cons rfl ⟨_, rfl, hw⟩ (.cons rfl sS113.one (.cons rfl sS146.one .nil)))))
          · exact (.cons (win_row r151 (dlCons (dNd rfl ⟨_, rfl, hw⟩) dlNil)) (.cons (win_own r152 (dlCons (dLit (by decide +kernel)) (dlCons (dLit rfl) dlNil))) .nil))
          · exact ⟨(fun v hv h => (by simp at hv; rcases hv with rfl <;> first | (simp at h; done) | exact Apart.ne (by assumption) | exact (Apart.ne (by assumption)).symm)), ⟨(fun v hv => (by cases hv)), trivial⟩⟩
          · exact .nil
        · exact (envEq (put_ne rfl b135) (dNd rfl sS113.one) (envEq (put_ne rfl b136) (dFn' dlNil (dlCons (dPtr (l := c) (o := 0) rfl) dlNil)) (envEq (put_ne rfl b137) (dNd rfl ⟨_, rfl, hx⟩) (envEq (put_ne rfl b138) (dPtr (l := p6) (o := 0) rfl) (envEq put_same (dNd rfl sS146.one) envNil)))))
        refine all1 (by kernel_rfl) ?_
        intro vs ls H153 E153 st hE
        have gz : Grew H H153 := (grew_own g150 (st.inn.kept) ⟨op6, trivial⟩)
        exact res_ex (by kernel_rfl) (end_same st.inn hE (.inr rfl) (a := .agg [.flt .f32 x, S146]) (by kernel_rfl) gz.next ⟨gz, _, rfl, (sS146.keep st.inn.kept ⟨by assumption, trivial⟩), fr149⟩)
      ·
        refine run_mn (φ := φ0) (pm := pmR 3 [] 0) 20 (nk := [(.atom 0, .flt .f32), (.atom 1, .one), (.atom 2, .flt .f32), (.atom 3, .one)]) (fs := []) (xs := [.flt .f32 x, S, .flt .f32 wt, S113]) (ws := [⟨c, 0, [.nd 2 (.flt .f32)], false⟩, ⟨p2, 0, [.nd 0 (.flt .f32), .nd 1 .one], false⟩, ⟨p6, 0, [.lit (.flt .f32 (some 0)), .lit .nilslice], false⟩]) (env := [(5, .ptr 1 0), (9, .nd 3 .one), (10, .fn 82 [] [.ptr 0 0]), (4, .ptr 2 0)]) ?_ ?_ tb_ok ap_ok ?_
        · refine midN_in ?_ .nil _ ?_ ?_ ?_
          · exact (.cons rfl ⟨_, rfl, hx⟩ (.cons rfl (slOne hS) (.cons rfl ⟨_, rfl, hw⟩ (.cons rfl sS113.one .nil))))
          · exact (.cons (win_row r130 (dlCons (dNd rfl ⟨_, rfl, hw⟩) dlNil)) (.cons (win_row r131 (dlCons (dNd rfl ⟨_, rfl, hx⟩) (dlCons (dNd rfl (slOne hS)) dlNil))) (.cons (win_row r132 (dlCons (dLit (by decide +kernel)) (dlCons (dLit rfl) dlNil))) .nil)))
          · exact sepOk_ro rfl
          · exact .nil
        · exact (envEq b124 (dPtr (l := p2) (o := 0) rfl) (envEq b125 (dNd rfl sS113.one) (envEq b126 (dFn' dlNil (dlCons (dPtr (l := c) (o := 0) rfl) dlNil)) (envEq b127 (dPtr (l := p6) (o := 0) rfl) envNil))))
        refine all1 (by kernel_rfl) ?_
        intro vs ls H154 E154 st hE
        have b155 : E154 9 = S113 := env_of st.inn hE 9 (by kernel_rfl)
        have b156 : E154 10 = .func 82 [] [.ptr c 0] := env_of st.inn hE 10 (by kernel_rfl)
        have b157 : E154 5 = .ptr p2 0 := env_of st.inn hE 5 (by kernel_rfl)
        have b158 : E154 4 = .ptr p6 0 := env_of st.inn hE 4 (by kernel_rfl)
        have g159 : Grew H123 H154 := (st.kept.grew (Nat.le_of_ble_eq_true (by kernel_rfl)))
        have g160 : Grew H H154 := Grew.trans g129 g159
        have r161 := g159.at r130
        have r162 := g159.at r131
        have r163 := g159.at r132
        have s164 := s133.grew g159
        clear st hE vs ls
        refine res_kidF (d := (some 11)) (f := 85) (args := [.tmp 9, .tmp 10]) (by kernel_rfl) (R := fun z H' => OnlyS S113 H154 H' ∧ SlW H' 9 (ms.filter fun m => !(lightB wt) m) z ∧ ∀ l, AtS z l → AtS S113 l) ?_ ?_
        · show ACalls _ _ [E154 9, E154 10] _ _
          rw [b155, b156]
          exact k_DeleteLight H154 ms hr S113 s164 mxms wt hw c r161 (by assumption)
        rintro S166 H165 ⟨oH165, sS166, uS166⟩
        have fsS166 : FromS H154.next (S113) S166 := ⟨fun l' hl => .inr (uS166 l' hl)⟩
        have ne167 : ApartL (S166) c := fsS166.apartL (H154.lt_of_get r161) (by assumption)
        have ne168 : ApartL (S166) p2 := fsS166.apartL (H154.lt_of_get r162) (by assumption)
        have ne169 : ApartL (S166) p6 := fsS166.apartL (H154.lt_of_get r163) (by assumption)
        have fr170 : FreshS H.next S166 := fsS166.fresh fr118 g160.next
        have g171 : Grew H H165 := OnlyS.own g160 fr118 oH165
        have r172 := oH165.at r161 (by assumption)
        have r173 := oH165.at r162 (by assumption)
        have r174 := oH165.at r163 (by assumption)
        refine run_mn (φ := φ0) (pm := pmR 2 [] 0) 20 (nk := [(.atom 0, .flt .f32), (.atom 1, .one), (.atom 2, .flt .f32), (.atom 3, .one), (.atom 4, .one)]) (fs := []) (xs := [.flt .f32 x, S, .flt .f32 wt, S113, S166]) (ws := [⟨c, 0, [.nd 2 (.flt .f32)], false⟩, ⟨p2, 0, [.nd 0 (.flt .f32), .nd 1 .one], false⟩, ⟨p6, 0, [.lit (.flt .f32 (some 0)), .lit .nilslice], true⟩]) (env := [(9, .nd 3 .one), (10, .fn 82 [] [.ptr 0 0]), (5, .ptr 1 0), (4, .ptr 2 0), (11, .nd 4 .one)]) ?_ ?_ tb_ok ap_ok ?_
        · refine midN_in ?_ .nil _ ?_ ?_ ?_
          · exact (.cons rfl ⟨_, rfl, hx⟩ (.cons rfl (slOne hS) (.cons rfl ⟨_, rfl, hw⟩ (.cons rfl sS113.one (.cons rfl sS166.one .nil)))))
          · exact (.cons (win_row r172 (dlCons (dNd rfl ⟨_, rfl, hw⟩) dlNil)) (.cons (win_row r173 (dlCons (dNd rfl ⟨_, rfl, hx⟩) (dlCons (dNd rfl (slOne hS)) dlNil))) (.cons (win_own r174 (dlCons (dLit (by decide +kernel)) (dlCons (dLit rfl) dlNil))) .nil)))
          · exact ⟨(fun v hv h => (by simp at hv; rcases hv with rfl | rfl <;> first | (simp at h; done) | exact Apart.ne (by assumption) | exact (Apart.ne (by assumption)).symm)), ⟨(fun v hv h => (by simp at hv; rcases hv with rfl <;> first | (simp at h; done) | exact Apart.ne (by assumption) | exact (Apart.ne (by assumption)).symm)), ⟨(fun v hv => (by cases hv)), trivial⟩⟩⟩
          · exact .nil
        · exact (envEq (put_ne rfl b155) (dNd rfl sS113.one) (envEq (put_ne rfl b156) (dFn' dlNil (dlCons (dPtr (l := c) (o := 0) rfl) dlNil)) (envEq (put_ne rfl b157) (dPtr (l := p2) (o := 0) rfl) (envEq (put_ne rfl b158) (dPtr (l := p6) (o := 0) rfl) (envEq put_same (dNd rfl sS166.one) envNil)))))
        refine all1 (by kernel_rfl) ?_
        intro vs ls H175 E175 st hE
        have gz : Grew H H175 := (grew_own g171 (st.inn.kept) ⟨op6, trivial⟩)
        exact res_ex (by kernel_rfl) (end_same st.inn hE (.inr rfl) (a := .agg [.flt .f32 x, S166]) (by kernel_rfl) gz.next ⟨gz, _, rfl, (sS166.keep st.inn.kept ⟨by assumption, trivial⟩), fr170⟩)
end Go.Proofs.Ytgjhjemmddojfaa
