/- Contracts: loops that are taken, by both. -/
import Derived.Test.YtcmoeocemmeofaaTResD
import Derived.Test.YtcmoeocemmeofaaTAddLinkC
set_option linter.unusedVariables false
set_option linter.unusedSimpArgs false
namespace Go.Proofs.Ytcmoeocemmeofaa
open Go.Ab
set_option maxRecDepth 100000
set_option maxHeartbeats 1000000
attribute [local irreducible] Res
theorem addK_zero {ms ks : List (List AV)} {x : List AV} (h : (addK ms ks x).2.2 = 0) : okK ms.length x = true := by
  unfold addK at h
  split at h
  · cases h
  · split at h
    · cases h
    · rename_i h2; simpa using h2
theorem addK_one {ms ks : List (List AV)} {x : List AV} : (addK ms ks x).2.2 = 1 ↔ okG ms ks = false := by
  unfold addK
  constructor
  · intro h
    split at h
    · assumption
    · repeat' split at h
      all_goals cases h
  · intro h
    rw [if_pos h]
theorem okK_linkV {n : Nat} (v0 v1 : Int) (v2 v3 v4 v5 : Option Nat) (o2 : fOk .f32 v2) (o3 : fOk .f32 v3) (o4 : fOk .f32 v4) (o5 : fOk .f32 v5) (h : okK n [.int .i64 v0, .int .i64 v1, .flt .f32 v2, .flt .f32 v3, .flt .f32 v4, .flt .f32 v5] = true) : LinkV n [.int .i64 v0, .int .i64 v1, .flt .f32 v2, .flt .f32 v3, .flt .f32 v4, .flt .f32 v5] := by
  unfold okK at h
  simp only [Bool.and_eq_true, decide_eq_true_eq] at h
  obtain ⟨⟨b1, b2, b3, b4, b5⟩, _⟩ := h
  refine ⟨v0.toNat, v1.toNat, v2, v3, v4, v5, ?_, o2, o3, o4, o5, by omega, by omega, by omega⟩
  rw [Int.toNat_of_nonneg b1, Int.toNat_of_nonneg b3]
theorem k_costV (H : AHeap) (ms : List (List AV)) (hr : Recs KP ms) (S : AV) (hS : SlL H 3 ms S) (hmx : ms.length < 2 ^ 40) (Sk : AV) (hSk : Sk.one = true) {L : List AV} (h : LinkV ms.length L) : APure Try.prog 70 [.agg [S, Sk], .agg L] H (.flt .f32 (sqF ms L)) := by
  obtain ⟨a, b, x, y, z, u, rfl, ox, oy, oz, ou, ha, hb, _⟩ := h
  exact k_costOfLink H ms hr S hS hmx Sk hSk a b ha hb x y z u ox oy oz ou
theorem k_squareV (H : AHeap) (ms : List (List AV)) (hr : Recs KP ms) (S : AV) (hS : SlL H 3 ms S) (hmx : ms.length < 2 ^ 40) (Sk : AV) (hSk : Sk.one = true) {L : List AV} (h : LinkV ms.length L) (lg : Nat) (hg : H.get lg = some (.row [S, Sk] true)) (l : Nat) (wr : Bool) (hx : H.get l = some (.row L wr)) : APure Try.prog 69 [.ptr lg 0, .ptr l 0] H (.flt .f32 (sqF ms L)) := by
  obtain ⟨a, b, x, y, z, u, rfl, ox, oy, oz, ou, ha, hb, _⟩ := h
  exact k_l06Square H ms hr S hS hmx Sk hSk a b ha hb x y z u ox oy oz ou lg hg l 0 [] [] wr (by simpa using hx) rfl
open Classical in
noncomputable def takeF (ms ks : List (List AV)) (x : List AV) (bd : Option Nat) : List (List AV) × List (List AV) × Int :=
  if (addK ms ks x).2.2 = 1 then ([], [], 1) else if (ford .f32 bd bd == some .eq) = false then ([], [], 2) else if (addK ms ks x).2.2 = 0 then (if (ford .f32 (sqF ms x) bd == some .lt || ford .f32 (sqF ms x) bd == some .eq) = true then addK ms ks x else ([], [], 8)) else ([], [], (addK ms ks x).2.2)
theorem addK_recs {ms ks : List (List AV)} {x : List AV} (hr : Recs KP ms) (hrk : Recs KL ks) (hx : KdsL KL x) : Recs KP (addK ms ks x).1 ∧ Recs KL (addK ms ks x).2.1 := by
  unfold addK
  split
  · exact ⟨.nil, .nil⟩
  · split
    · exact ⟨.nil, .nil⟩
    · split
      · exact ⟨.nil, .nil⟩
      · exact ⟨hr, .append hrk (.one hx)⟩
theorem k_impl_TakeLoop (H : AHeap) (ms : List (List AV)) (hr : Recs KP ms) (S : AV) (hS : SlL H 3 ms S) (mxms : ms.length ≤ 1048576) (ks : List (List AV)) (hrk : Recs KL ks) (Sk : AV) (hSk : SlL H 6 ks Sk) (mxks : ks.length ≤ 1048576) (v0 v1 : Int) (v2 v3 v4 v5 : Option Nat) (o2 : fOk .f32 v2) (o3 : fOk .f32 v3) (o4 : fOk .f32 v4) (o5 : fOk .f32 v5) (bd : Option Nat) (hbd : fOk .f32 bd) : ACalls Try.prog 42 [.agg [S, Sk], .agg [.int .i64 v0, .int .i64 v1, .flt .f32 v2, .flt .f32 v3, .flt .f32 v4, .flt .f32 v5], .flt .f32 bd] H fun r H' => Grew H H' ∧ ∃ S' Sk', r = .tuple [.agg [S', Sk'], .int .i64 (takeF ms ks [.int .i64 v0, .int .i64 v1, .flt .f32 v2, .flt .f32 v3, .flt .f32 v4, .flt .f32 v5] bd).2.2] ∧ SlW H' 3 (takeF ms ks [.int .i64 v0, .int .i64 v1, .flt .f32 v2, .flt .f32 v3, .flt .f32 v4, .flt .f32 v5] bd).1 S' ∧ FreshS H.next S' ∧ SlW H' 6 (takeF ms ks [.int .i64 v0, .int .i64 v1, .flt .f32 v2, .flt .f32 v3, .flt .f32 v4, .flt .f32 v5] bd).2.1 Sk' ∧ FreshS H.next Sk' ∧ ApartS S' Sk' := by
  refine res_start h_impl_TakeLoop (by simp) ?_
  refine run_mn (φ := φ0) (pm := pmR 0 [(.call 64 [.agg [.nd 0 .one, .nd 1 .one]], .nd 9 .bool)] 0) 20 (nk := [(.atom 0, .one), (.atom 1, .one), (.atom 2, .int .i64), (.atom 3, .int .i64), (.atom 4, .flt .f32), (.atom 5, .flt .f32), (.atom 6, .flt .f32), (.atom 7, .flt .f32), (.atom 8, .flt .f32), (.atom 9, .bool)]) (fs := []) (xs := [S, Sk, .int .i64 v0, .int .i64 v1, .flt .f32 v2, .flt .f32 v3, .flt .f32 v4, .flt .f32 v5, .flt .f32 bd, .bool (okG ms ks)]) (ws := []) (env := [(0, .agg [.nd 0 .one, .nd 1 .one]), (1, .agg [.nd 2 (.int .i64), .nd 3 (.int .i64), .nd 4 (.flt .f32), .nd 5 (.flt .f32), .nd 6 (.flt .f32), .nd 7 (.flt .f32)]), (2, .nd 8 (.flt .f32))]) ?_ ?_ tb_ok ap_ok ?_
  · refine midN_in ?_ .nil _ ?_ ?_ ?_
    · exact (.cons rfl (slOne hS) (.cons rfl (slOne hSk) (.cons rfl ⟨_, rfl⟩ (.cons rfl ⟨_, rfl⟩ (.cons rfl ⟨_, rfl, o2⟩ (.cons rfl ⟨_, rfl, o3⟩ (.cons rfl ⟨_, rfl, o4⟩ (.cons rfl ⟨_, rfl, o5⟩ (.cons rfl ⟨_, rfl, hbd⟩ (.cons rfl ⟨_, rfl⟩ .nil))))))))))
    · exact .nil
    · exact sepOk_ro rfl
    · exact (.cons (rule_call (args := [.agg [S, Sk]]) (dlCons (dAgg (dlCons (dNd rfl (slOne hS)) (dlCons (dNd rfl (slOne hSk)) dlNil))) dlNil) (dNd rfl ⟨_, rfl⟩) (fun H9 hk => k_impl_ValidGraph H9 ms hr S (hS.grew (Grew.trans (Grew.refl _) (hk.grew (Nat.le_refl _)))) (mx40 mxms) ks hrk Sk (hSk.grew (Grew.trans (Grew.refl _) (hk.grew (Nat.le_refl _)))) (mx40 mxks))) .nil)
  · exact (envEq rfl (dAgg (dlCons (dNd rfl (slOne hS)) (dlCons (dNd rfl (slOne hSk)) dlNil))) (envEq rfl (dAgg (dlCons (dNd rfl ⟨_, rfl⟩) (dlCons (dNd rfl ⟨_, rfl⟩) (dlCons (dNd rfl ⟨_, rfl, o2⟩) (dlCons (dNd rfl ⟨_, rfl, o3⟩) (dlCons (dNd rfl ⟨_, rfl, o4⟩) (dlCons (dNd rfl ⟨_, rfl, o5⟩) dlNil))))))) (envEq rfl (dNd rfl ⟨_, rfl, hbd⟩) envNil)))
  refine all3 (by kernel_rfl) ?_ ?_ ?_
  ·
    intro vs ls H1 E1 st hE
    have f2 : (okG ms ks) = false := bfact st.inn 0 (by kernel_rfl)
    have gz : Grew H H1 := (Grew.trans (Grew.refl _) (st.kept.grew (Nat.le_of_ble_eq_true (by kernel_rfl))))
    have hc : takeF ms ks [.int .i64 v0, .int .i64 v1, .flt .f32 v2, .flt .f32 v3, .flt .f32 v4, .flt .f32 v5] bd = ([], [], 1) := by
      unfold takeF
      rw [if_pos (addK_one.2 f2)]
    exact res_ex (by kernel_rfl) (end_same st.inn hE (.inr rfl) (a := .tuple [.agg [.nilslice, .nilslice], .int .i64 1]) (by kernel_rfl) gz.next (by rw [hc]; exact ⟨gz, _, _, rfl, (.nil rfl), FreshS.nil, (.nil rfl), FreshS.nil, ApartS.nil⟩))
  ·
    intro vs ls H3 E3 st hE
    have f4 : (ford .f32 bd bd == some .eq) = false := bfact st.inn 0 (by kernel_rfl)
    have f5 : (okG ms ks) = true := bfact st.inn 1 (by kernel_rfl)
    have gz : Grew H H3 := (Grew.trans (Grew.refl _) (st.kept.grew (Nat.le_of_ble_eq_true (by kernel_rfl))))
    have hc : takeF ms ks [.int .i64 v0, .int .i64 v1, .flt .f32 v2, .flt .f32 v3, .flt .f32 v4, .flt .f32 v5] bd = ([], [], 2) := by
      unfold takeF
      rw [if_neg (fun h9 => by have h8 := addK_one.1 h9; rw [f5] at h8; cases h8)]
      rw [if_pos (by rw [f4])]
    exact res_ex (by kernel_rfl) (end_same st.inn hE (.inr rfl) (a := .tuple [.agg [.nilslice, .nilslice], .int .i64 2]) (by kernel_rfl) gz.next (by rw [hc]; exact ⟨gz, _, _, rfl, (.nil rfl), FreshS.nil, (.nil rfl), FreshS.nil, ApartS.nil⟩))
  ·
    intro vs ls H6 E6 st hE
    have f7 : (ford .f32 bd bd == some .eq) = true := bfact st.inn 0 (by kernel_rfl)
    have f8 : (okG ms ks) = true := bfact st.inn 1 (by kernel_rfl)
    obtain ⟨p9, e10, r11, n12⟩ := ptr_of st.inn hE 6 2 (by kernel_rfl) (ds := [.nilslice, .nilslice]) (by kernel_rfl)
    have op9 : H.next ≤ p9 := Nat.le_trans (Nat.le_refl _) (n12 (Nat.le_of_ble_eq_true rfl))
    obtain ⟨p13, e14, r15, n16⟩ := ptr_of st.inn hE 3 0 (by kernel_rfl) (ds := [S, Sk]) (by kernel_rfl)
    have op13 : H.next ≤ p13 := Nat.le_trans (Nat.le_refl _) (n16 (Nat.le_of_ble_eq_true rfl))
    obtain ⟨p17, e18, r19, n20⟩ := ptr_of st.inn hE 4 1 (by kernel_rfl) (ds := [.int .i64 v0, .int .i64 v1, .flt .f32 v2, .flt .f32 v3, .flt .f32 v4, .flt .f32 v5]) (by kernel_rfl)
    have op17 : H.next ≤ p17 := Nat.le_trans (Nat.le_refl _) (n20 (Nat.le_of_ble_eq_true rfl))
    have ne21 : Apart p9 p13 := ⟨ptr_ne st.inn hE 6 2 3 0 (by kernel_rfl) (by kernel_rfl) (cs := [.lit .nilslice, .lit .nilslice]) (by kernel_rfl) (by decide) e10 e14⟩
    have ne22 : Apart p9 p17 := ⟨ptr_ne st.inn hE 6 2 4 1 (by kernel_rfl) (by kernel_rfl) (cs := [.lit .nilslice, .lit .nilslice]) (by kernel_rfl) (by decide) e10 e18⟩
    have ne23 : Apart p13 p17 := ⟨ptr_ne st.inn hE 3 0 4 1 (by kernel_rfl) (by kernel_rfl) (cs := [.nd 0 .one, .nd 1 .one]) (by kernel_rfl) (by decide) e14 e18⟩
    have b24 : E6 20 = .agg [S, Sk] := env_of st.inn hE 20 (by kernel_rfl)
    have b25 : E6 21 = .agg [.int .i64 v0, .int .i64 v1, .flt .f32 v2, .flt .f32 v3, .flt .f32 v4, .flt .f32 v5] := env_of st.inn hE 21 (by kernel_rfl)
    have b26 : E6 2 = .flt .f32 bd := env_of st.inn hE 2 (by kernel_rfl)
    have g27 : Grew H H6 := (st.kept.grew (Nat.le_of_ble_eq_true (by kernel_rfl)))
    have g28 : Grew H H6 := Grew.trans (Grew.refl _) g27
    clear st hE vs ls
    refine res_call (d := (some 22)) (f := 77) (args := [.tmp 20, .tmp 21]) (by kernel_rfl) (R := fun z H' => Grew H6 H' ∧ ∃ S' Sk', z = .tuple [.agg [S', Sk'], .int .i64 (addK ms ks [.int .i64 v0, .int .i64 v1, .flt .f32 v2, .flt .f32 v3, .flt .f32 v4, .flt .f32 v5]).2.2] ∧ SlW H' 3 (addK ms ks [.int .i64 v0, .int .i64 v1, .flt .f32 v2, .flt .f32 v3, .flt .f32 v4, .flt .f32 v5]).1 S' ∧ FreshS H6.next S' ∧ SlW H' 6 (addK ms ks [.int .i64 v0, .int .i64 v1, .flt .f32 v2, .flt .f32 v3, .flt .f32 v4, .flt .f32 v5]).2.1 Sk' ∧ FreshS H6.next Sk' ∧ ApartS S' Sk') ?_ ?_
    · show ACalls _ _ [E6 20, E6 21] _ _
      rw [b24, b25]
      exact k_impl_AddLink H6 ms hr S (hS.grew g28) mxms ks hrk Sk (hSk.grew g28) mxks v0 v1 v2 v3 v4 v5 o2 o3 o4 o5
    rintro z H29 ⟨gH29, S30, S31, rfl, sS30, fS30, sS31, fS31, ap32⟩
    have ne33 : ApartL (S30) p9 := fS30.apartL (H6.lt_of_get r11)
    have ne34 : ApartL (S30) p13 := fS30.apartL (H6.lt_of_get r15)
    have ne35 : ApartL (S30) p17 := fS30.apartL (H6.lt_of_get r19)
    have fr36 : FreshS H.next (S30) := fS30.mono g28.next
    have ne37 : ApartL (S31) p9 := fS31.apartL (H6.lt_of_get r11)
    have ne38 : ApartL (S31) p13 := fS31.apartL (H6.lt_of_get r15)
    have ne39 : ApartL (S31) p17 := fS31.apartL (H6.lt_of_get r19)
    have fr40 : FreshS H.next (S31) := fS31.mono g28.next
    have g41 : Grew H H29 := Grew.trans g28 gH29
    have r42 := gH29.at r11
    have r43 := gH29.at r15
    have r44 := gH29.at r19
    refine run_mn (φ := φ0) (pm := pmR 2 [] 0) 20 (nk := [(.atom 0, .one), (.atom 1, .one), (.atom 2, .int .i64), (.atom 3, .int .i64), (.atom 4, .flt .f32), (.atom 5, .flt .f32), (.atom 6, .flt .f32), (.atom 7, .flt .f32), (.atom 8, .flt .f32), (.atom 9, .bool), (.atom 10, .one), (.atom 11, .one), (.atom 12, .int .i64)]) (fs := []) (xs := [S, Sk, .int .i64 v0, .int .i64 v1, .flt .f32 v2, .flt .f32 v3, .flt .f32 v4, .flt .f32 v5, .flt .f32 bd, .bool (okG ms ks), S30, S31, .int .i64 (addK ms ks [.int .i64 v0, .int .i64 v1, .flt .f32 v2, .flt .f32 v3, .flt .f32 v4, .flt .f32 v5]).2.2]) (ws := [⟨p13, 0, [.nd 0 .one, .nd 1 .one], false⟩, ⟨p17, 0, [.nd 2 (.int .i64), .nd 3 (.int .i64), .nd 4 (.flt .f32), .nd 5 (.flt .f32), .nd 6 (.flt .f32), .nd 7 (.flt .f32)], false⟩, ⟨p9, 0, [.lit .nilslice, .lit .nilslice], true⟩]) (env := [(20, .agg [.nd 0 .one, .nd 1 .one]), (21, .agg [.nd 2 (.int .i64), .nd 3 (.int .i64), .nd 4 (.flt .f32), .nd 5 (.flt .f32), .nd 6 (.flt .f32), .nd 7 (.flt .f32)]), (6, .ptr 2 0), (3, .ptr 0 0), (4, .ptr 1 0), (2, .nd 8 (.flt .f32)), (22, .tup [.agg [.nd 10 .one, .nd 11 .one], .nd 12 (.int .i64)])]) ?_ ?_ tb_ok ap_ok ?_
    · refine midN_in ?_ .nil _ ?_ ?_ ?_
      · exact (.cons rfl (slOne hS) (.cons rfl (slOne hSk) (.cons rfl ⟨_, rfl⟩ (.cons rfl ⟨_, rfl⟩ (.cons rfl ⟨_, rfl, o2⟩ (.cons rfl ⟨_, rfl, o3⟩ (.cons rfl ⟨_, rfl, o4⟩ (.cons rfl ⟨_, rfl, o5⟩ (.cons rfl ⟨_, rfl, hbd⟩ (.cons rfl ⟨_, rfl⟩ (.cons rfl sS30.one (.cons rfl sS31.one (.cons rfl ⟨_, rfl⟩ .nil)))))))))))))
      · exact (.cons (win_row r43 (dlCons (dNd rfl (slOne hS)) (dlCons (dNd rfl (slOne hSk)) dlNil))) (.cons (win_row r44 (dlCons (dNd rfl ⟨_, rfl⟩) (dlCons (dNd rfl ⟨_, rfl⟩) (dlCons (dNd rfl ⟨_, rfl, o2⟩) (dlCons (dNd rfl ⟨_, rfl, o3⟩) (dlCons (dNd rfl ⟨_, rfl, o4⟩) (dlCons (dNd rfl ⟨_, rfl, o5⟩) dlNil))))))) (.cons (win_own r42 (dlCons (dLit rfl) (dlCons (dLit rfl) dlNil))) .nil)))
      · exact ⟨(fun v hv h => (by simp at hv; rcases hv with rfl | rfl <;> first | (simp at h; done) | exact Apart.ne (by assumption) | exact (Apart.ne (by assumption)).symm)), ⟨(fun v hv h => (by simp at hv; rcases hv with rfl <;> first | (simp at h; done) | exact Apart.ne (by assumption) | exact (Apart.ne (by assumption)).symm)), ⟨(fun v hv => (by cases hv)), trivial⟩⟩⟩
      · exact .nil
    · exact (envEq (put_ne rfl b24) (dAgg (dlCons (dNd rfl (slOne hS)) (dlCons (dNd rfl (slOne hSk)) dlNil))) (envEq (put_ne rfl b25) (dAgg (dlCons (dNd rfl ⟨_, rfl⟩) (dlCons (dNd rfl ⟨_, rfl⟩) (dlCons (dNd rfl ⟨_, rfl, o2⟩) (dlCons (dNd rfl ⟨_, rfl, o3⟩) (dlCons (dNd rfl ⟨_, rfl, o4⟩) (dlCons (dNd rfl ⟨_, rfl, o5⟩) dlNil))))))) (envEq (put_ne rfl e10) (dPtr (l := p9) (o := 0) rfl) (envEq (put_ne rfl e14) (dPtr (l := p13) (o := 0) rfl) (envEq (put_ne rfl e18) (dPtr (l := p17) (o := 0) rfl) (envEq (put_ne rfl b26) (dNd rfl ⟨_, rfl, hbd⟩) (envEq put_same (dTup' (dlCons (dAgg (dlCons (dNd rfl sS30.one) (dlCons (dNd rfl sS31.one) dlNil))) (dlCons (dNd rfl ⟨_, rfl⟩) dlNil))) envNil)))))))
    refine all2 (by kernel_rfl) ?_ ?_
    ·
      intro vs ls H45 E45 st hE
      have f46 : ¬ ((addK ms ks [.int .i64 v0, .int .i64 v1, .flt .f32 v2, .flt .f32 v3, .flt .f32 v4, .flt .f32 v5]).2.2 = 0) := of_decide_eq_false (bfact (x := decide ((addK ms ks [.int .i64 v0, .int .i64 v1, .flt .f32 v2, .flt .f32 v3, .flt .f32 v4, .flt .f32 v5]).2.2 = 0)) st.inn 0 (by kernel_rfl))
      have gz : Grew H H45 := (grew_own g41 (st.inn.kept) ⟨op9, trivial⟩)
      have hc : takeF ms ks [.int .i64 v0, .int .i64 v1, .flt .f32 v2, .flt .f32 v3, .flt .f32 v4, .flt .f32 v5] bd = ([], [], (addK ms ks [.int .i64 v0, .int .i64 v1, .flt .f32 v2, .flt .f32 v3, .flt .f32 v4, .flt .f32 v5]).2.2) := by
        unfold takeF
        rw [if_neg (fun h9 => by have h8 := addK_one.1 h9; rw [f8] at h8; cases h8)]
        rw [if_neg (by rw [f7]; decide)]
        rw [if_neg f46]
      exact res_ex (by kernel_rfl) (end_same st.inn hE (.inr rfl) (a := .tuple [.agg [.nilslice, .nilslice], .int .i64 (addK ms ks [.int .i64 v0, .int .i64 v1, .flt .f32 v2, .flt .f32 v3, .flt .f32 v4, .flt .f32 v5]).2.2]) (by kernel_rfl) gz.next (by rw [hc]; exact ⟨gz, _, _, rfl, (.nil rfl), FreshS.nil, (.nil rfl), FreshS.nil, ApartS.nil⟩))
    ·
      intro vs ls H47 E47 st hE
      have f48 : (addK ms ks [.int .i64 v0, .int .i64 v1, .flt .f32 v2, .flt .f32 v3, .flt .f32 v4, .flt .f32 v5]).2.2 = 0 := of_decide_eq_true (bfact (x := decide ((addK ms ks [.int .i64 v0, .int .i64 v1, .flt .f32 v2, .flt .f32 v3, .flt .f32 v4, .flt .f32 v5]).2.2 = 0)) st.inn 0 (by kernel_rfl))
      obtain ⟨p49, e50, r51, n52⟩ := ptr_of st.inn hE 8 3 (by kernel_rfl) (ds := [S30, S31]) (by kernel_rfl)
      have op49 : H.next ≤ p49 := Nat.le_trans g41.next (n52 (Nat.le_of_ble_eq_true rfl))
      have ne53 : Apart p49 p13 := ⟨Nat.ne_of_gt (Nat.lt_of_lt_of_le (H29.lt_of_get r43) (n52 (Nat.le_of_ble_eq_true rfl)))⟩
      have ne54 : Apart p49 p17 := ⟨Nat.ne_of_gt (Nat.lt_of_lt_of_le (H29.lt_of_get r44) (n52 (Nat.le_of_ble_eq_true rfl)))⟩
      have ne55 : Apart p49 p9 := ⟨Nat.ne_of_gt (Nat.lt_of_lt_of_le (H29.lt_of_get r42) (n52 (Nat.le_of_ble_eq_true rfl)))⟩
      have ne56 : ApartL (S30) p49 := sS30.apart_new (n52 (Nat.le_of_ble_eq_true rfl))
      have ne57 : ApartL (S31) p49 := sS31.apart_new (n52 (Nat.le_of_ble_eq_true rfl))
      have b58 : E47 31 = .agg [S, Sk] := env_of st.inn hE 31 (by kernel_rfl)
      have b59 : E47 32 = .agg [.int .i64 v0, .int .i64 v1, .flt .f32 v2, .flt .f32 v3, .flt .f32 v4, .flt .f32 v5] := env_of st.inn hE 32 (by kernel_rfl)
      have b60 : E47 2 = .flt .f32 bd := env_of st.inn hE 2 (by kernel_rfl)
      have b61 : E47 6 = .ptr p9 0 := env_of st.inn hE 6 (by kernel_rfl)
      have g62 : Grew H29 H47 := (st.kept.grew (Nat.le_of_ble_eq_true (by kernel_rfl)))
      have g63 : Grew H H47 := Grew.trans g41 g62
      have r64 := g62.at r43
      have r65 := g62.at r44
      have r66 := g62.at r42
      have s67 := sS30.grew g62
      have s68 := sS31.grew g62
      clear st hE vs ls
      refine res_call (d := (some 33)) (f := 70) (args := [.tmp 31, .tmp 32]) (by kernel_rfl) (R := fun z H' => z = .flt .f32 (sqF ms [.int .i64 v0, .int .i64 v1, .flt .f32 v2, .flt .f32 v3, .flt .f32 v4, .flt .f32 v5]) ∧ H' = H47) ?_ ?_
      · show ACalls _ _ [E47 31, E47 32] _ _
        rw [b58, b59]
        exact k_costV H47 ms hr S (hS.grew g63) (mx40 mxms) Sk (slOne hSk) (okK_linkV v0 v1 v2 v3 v4 v5 o2 o3 o4 o5 (addK_zero f48))
      rintro z H47 ⟨rfl, rfl⟩
      refine run_mn (φ := φ0) (pm := pmR 1 [] 0) 20 (nk := [(.atom 0, .one), (.atom 1, .one), (.atom 2, .int .i64), (.atom 3, .int .i64), (.atom 4, .flt .f32), (.atom 5, .flt .f32), (.atom 6, .flt .f32), (.atom 7, .flt .f32), (.atom 8, .flt .f32), (.atom 9, .bool), (.atom 10, .one), (.atom 11, .one), (.atom 12, .int .i64), (.atom 13, .flt .f32)]) (fs := []) (xs := [S, Sk, .int .i64 v0, .int .i64 v1, .flt .f32 v2, .flt .f32 v3, .flt .f32 v4, .flt .f32 v5, .flt .f32 bd, .bool (okG ms ks), S30, S31, .int .i64 (addK ms ks [.int .i64 v0, .int .i64 v1, .flt .f32 v2, .flt .f32 v3, .flt .f32 v4, .flt .f32 v5]).2.2, .flt .f32 (sqF ms [.int .i64 v0, .int .i64 v1, .flt .f32 v2, .flt .f32 v3, .flt .f32 v4, .flt .f32 v5])]) (ws := [⟨p49, 0, [.nd 10 .one, .nd 11 .one], false⟩, ⟨p9, 0, [.lit .nilslice, .lit .nilslice], true⟩]) (env := [(31, .agg [.nd 0 .one, .nd 1 .one]), (32, .agg [.nd 2 (.int .i64), .nd 3 (.int .i64), .nd 4 (.flt .f32), .nd 5 (.flt .f32), .nd 6 (.flt .f32), .nd 7 (.flt .f32)]), (2, .nd 8 (.flt .f32)), (6, .ptr 1 0), (8, .ptr 0 0), (33, .nd 13 (.flt .f32))]) ?_ ?_ tb_ok ap_ok ?_
      · refine midN_in ?_ .nil _ ?_ ?_ ?_
        · exact (.cons rfl (slOne hS) (.cons rfl (slOne hSk) (.cons rfl ⟨_, rfl⟩ (.cons rfl ⟨_, rfl⟩ (.cons rfl ⟨_, rfl, o2⟩ (.cons rfl ⟨_, rfl, o3⟩ (.cons rfl ⟨_, rfl, o4⟩ (.cons rfl ⟨_, rfl, o5⟩ (.cons rfl ⟨_, rfl, hbd⟩ (.cons rfl ⟨_, rfl⟩ (.cons rfl sS30.one (.cons rfl sS31.one (.cons rfl ⟨_, rfl⟩ (.cons rfl ⟨_, rfl, sqF_ok ms _⟩ .nil))))))))))))))
        · exact (.cons (win_row r51 (dlCons (dNd rfl sS30.one) (dlCons (dNd rfl sS31.one) dlNil))) (.cons (win_own r66 (dlCons (dLit rfl) (dlCons (dLit rfl) dlNil))) .nil))
        · exact ⟨(fun v hv h => (by simp at hv; rcases hv with rfl <;> first | (simp at h; done) | exact Apart.ne (by assumption) | exact (Apart.ne (by assumption)).symm)), ⟨(fun v hv => (by cases hv)), trivial⟩⟩
        · exact .nil
      · exact (envEq (put_ne rfl b58) (dAgg (dlCons (dNd rfl (slOne hS)) (dlCons (dNd rfl (slOne hSk)) dlNil))) (envEq (put_ne rfl b59) (dAgg (dlCons (dNd rfl ⟨_, rfl⟩) (dlCons (dNd rfl ⟨_, rfl⟩) (dlCons (dNd rfl ⟨_, rfl, o2⟩) (dlCons (dNd rfl ⟨_, rfl, o3⟩) (dlCons (dNd rfl ⟨_, rfl, o4⟩) (dlCons (dNd rfl ⟨_, rfl, o5⟩) dlNil))))))) (envEq (put_ne rfl b60) (dNd rfl ⟨_, rfl, hbd⟩) (envEq (put_ne rfl b61) (dPtr (l := p9) (o := 0) rfl) (envEq (put_ne rfl e50) (dPtr (l := p49) (o := 0) rfl) (envEq put_same (dNd rfl ⟨_, rfl, sqF_ok ms _⟩) envNil))))))
      refine all2 (by kernel_rfl) ?_ ?_
      ·
        intro vs ls H69 E69 st hE
        have f70 : (ford .f32 (sqF ms [.int .i64 v0, .int .i64 v1, .flt .f32 v2, .flt .f32 v3, .flt .f32 v4, .flt .f32 v5]) bd == some .lt || ford .f32 (sqF ms [.int .i64 v0, .int .i64 v1, .flt .f32 v2, .flt .f32 v3, .flt .f32 v4, .flt .f32 v5]) bd == some .eq) = false := bfact st.inn 0 (by kernel_rfl)
        have gz : Grew H H69 := (grew_own g63 (st.inn.kept) ⟨op9, trivial⟩)
        have hc : takeF ms ks [.int .i64 v0, .int .i64 v1, .flt .f32 v2, .flt .f32 v3, .flt .f32 v4, .flt .f32 v5] bd = ([], [], 8) := by
          unfold takeF
          rw [if_neg (fun h9 => by have h8 := addK_one.1 h9; rw [f8] at h8; cases h8)]
          rw [if_neg (by rw [f7]; decide)]
          rw [if_pos f48]
          rw [if_neg (by rw [f70]; decide)]
        exact res_ex (by kernel_rfl) (end_same st.inn hE (.inr rfl) (a := .tuple [.agg [.nilslice, .nilslice], .int .i64 8]) (by kernel_rfl) gz.next (by rw [hc]; exact ⟨gz, _, _, rfl, (.nil rfl), FreshS.nil, (.nil rfl), FreshS.nil, ApartS.nil⟩))
      ·
        intro vs ls H71 E71 st hE
        have f72 : (ford .f32 (sqF ms [.int .i64 v0, .int .i64 v1, .flt .f32 v2, .flt .f32 v3, .flt .f32 v4, .flt .f32 v5]) bd == some .lt || ford .f32 (sqF ms [.int .i64 v0, .int .i64 v1, .flt .f32 v2, .flt .f32 v3, .flt .f32 v4, .flt .f32 v5]) bd == some .eq) = true := bfact st.inn 0 (by kernel_rfl)
        have gz : Grew H H71 := (grew_own g63 (st.inn.kept) ⟨op9, trivial⟩)
        have hc : takeF ms ks [.int .i64 v0, .int .i64 v1, .flt .f32 v2, .flt .f32 v3, .flt .f32 v4, .flt .f32 v5] bd = ((addK ms ks [.int .i64 v0, .int .i64 v1, .flt .f32 v2, .flt .f32 v3, .flt .f32 v4, .flt .f32 v5]).1, (addK ms ks [.int .i64 v0, .int .i64 v1, .flt .f32 v2, .flt .f32 v3, .flt .f32 v4, .flt .f32 v5]).2.1, 0) := by
          unfold takeF
          rw [if_neg (fun h9 => by have h8 := addK_one.1 h9; rw [f8] at h8; cases h8)]
          rw [if_neg (by rw [f7]; decide)]
          rw [if_pos f48]
          rw [if_pos f72]
          rw [show (0 : Int) = (addK ms ks [.int .i64 v0, .int .i64 v1, .flt .f32 v2, .flt .f32 v3, .flt .f32 v4, .flt .f32 v5]).2.2 from f48.symm]
        exact res_ex (by kernel_rfl) (end_same st.inn hE (.inr rfl) (a := .tuple [.agg [S30, S31], .int .i64 0]) (by kernel_rfl) gz.next (by rw [hc]; exact ⟨gz, _, _, rfl, (s67.keep st.inn.kept ⟨by assumption, trivial⟩), fr36, (s68.keep st.inn.kept ⟨by assumption, trivial⟩), fr40, (by first | assumption | exact ApartS.symm (by assumption))⟩))
theorem k_spec_TakeLoop (H : AHeap) (ms : List (List AV)) (hr : Recs KP ms) (S : AV) (hS : SlL H 3 ms S) (mxms : ms.length ≤ 1048576) (ks : List (List AV)) (hrk : Recs KL ks) (Sk : AV) (hSk : SlL H 6 ks Sk) (mxks : ks.length ≤ 1048576) (v0 v1 : Int) (v2 v3 v4 v5 : Option Nat) (o2 : fOk .f32 v2) (o3 : fOk .f32 v3) (o4 : fOk .f32 v4) (o5 : fOk .f32 v5) (bd : Option Nat) (hbd : fOk .f32 bd) : ACalls Try.prog 40 [.agg [S, Sk], .agg [.int .i64 v0, .int .i64 v1, .flt .f32 v2, .flt .f32 v3, .flt .f32 v4, .flt .f32 v5], .flt .f32 bd] H fun r H' => Grew H H' ∧ ∃ S' Sk', r = .tuple [.agg [S', Sk'], .int .i64 (takeF ms ks [.int .i64 v0, .int .i64 v1, .flt .f32 v2, .flt .f32 v3, .flt .f32 v4, .flt .f32 v5] bd).2.2] ∧ SlW H' 3 (takeF ms ks [.int .i64 v0, .int .i64 v1, .flt .f32 v2, .flt .f32 v3, .flt .f32 v4, .flt .f32 v5] bd).1 S' ∧ FreshS H.next S' ∧ SlW H' 6 (takeF ms ks [.int .i64 v0, .int .i64 v1, .flt .f32 v2, .flt .f32 v3, .flt .f32 v4, .flt .f32 v5] bd).2.1 Sk' ∧ FreshS H.next Sk' ∧ ApartS S' Sk' := by
  refine res_start h_spec_TakeLoop (by simp) ?_
  refine run_mn (φ := φ0) (pm := pmR 0 [] 0) 20 (nk := [(.atom 0, .one), (.atom 1, .one), (.atom 2, .int .i64), (.atom 3, .int .i64), (.atom 4, .flt .f32), (.atom 5, .flt .f32), (.atom 6, .flt .f32), (.atom 7, .flt .f32), (.atom 8, .flt .f32)]) (fs := []) (xs := [S, Sk, .int .i64 v0, .int .i64 v1, .flt .f32 v2, .flt .f32 v3, .flt .f32 v4, .flt .f32 v5, .flt .f32 bd]) (ws := []) (env := [(0, .agg [.nd 0 .one, .nd 1 .one]), (1, .agg [.nd 2 (.int .i64), .nd 3 (.int .i64), .nd 4 (.flt .f32), .nd 5 (.flt .f32), .nd 6 (.flt .f32), .nd 7 (.flt .f32)]), (2, .nd 8 (.flt .f32))]) ?_ ?_ tb_ok ap_ok ?_
  · refine midN_in ?_ .nil _ ?_ ?_ ?_
    · exact (.cons rfl (slOne hS) (.cons rfl (slOne hSk) (.cons rfl ⟨_, rfl⟩ (.cons rfl ⟨_, rfl⟩ (.cons rfl ⟨_, rfl, o2⟩ (.cons rfl ⟨_, rfl, o3⟩ (.cons rfl ⟨_, rfl, o4⟩ (.cons rfl ⟨_, rfl, o5⟩ (.cons rfl ⟨_, rfl, hbd⟩ .nil)))))))))
    · exact .nil
    · exact sepOk_ro rfl
    · exact .nil
  · exact (envEq rfl (dAgg (dlCons (dNd rfl (slOne hS)) (dlCons (dNd rfl (slOne hSk)) dlNil))) (envEq rfl (dAgg (dlCons (dNd rfl ⟨_, rfl⟩) (dlCons (dNd rfl ⟨_, rfl⟩) (dlCons (dNd rfl ⟨_, rfl, o2⟩) (dlCons (dNd rfl ⟨_, rfl, o3⟩) (dlCons (dNd rfl ⟨_, rfl, o4⟩) (dlCons (dNd rfl ⟨_, rfl, o5⟩) dlNil))))))) (envEq rfl (dNd rfl ⟨_, rfl, hbd⟩) envNil)))
  refine all1 (by kernel_rfl) ?_
  intro vs ls H1 E1 st hE
  obtain ⟨p2, e3, r4, n5⟩ := ptr_of st.inn hE 6 2 (by kernel_rfl) (ds := [.nilslice, .nilslice]) (by kernel_rfl)
  have op2 : H.next ≤ p2 := Nat.le_trans (Nat.le_refl _) (n5 (Nat.le_of_ble_eq_true rfl))
  obtain ⟨p6, e7, r8, n9⟩ := ptr_of st.inn hE 3 0 (by kernel_rfl) (ds := [S, Sk]) (by kernel_rfl)
  have op6 : H.next ≤ p6 := Nat.le_trans (Nat.le_refl _) (n9 (Nat.le_of_ble_eq_true rfl))
  obtain ⟨p10, e11, r12, n13⟩ := ptr_of st.inn hE 4 1 (by kernel_rfl) (ds := [.int .i64 v0, .int .i64 v1, .flt .f32 v2, .flt .f32 v3, .flt .f32 v4, .flt .f32 v5]) (by kernel_rfl)
  have op10 : H.next ≤ p10 := Nat.le_trans (Nat.le_refl _) (n13 (Nat.le_of_ble_eq_true rfl))
  have ne14 : Apart p2 p6 := ⟨ptr_ne st.inn hE 6 2 3 0 (by kernel_rfl) (by kernel_rfl) (cs := [.lit .nilslice, .lit .nilslice]) (by kernel_rfl) (by decide) e3 e7⟩
  have ne15 : Apart p2 p10 := ⟨ptr_ne st.inn hE 6 2 4 1 (by kernel_rfl) (by kernel_rfl) (cs := [.lit .nilslice, .lit .nilslice]) (by kernel_rfl) (by decide) e3 e11⟩
  have ne16 : Apart p6 p10 := ⟨ptr_ne st.inn hE 3 0 4 1 (by kernel_rfl) (by kernel_rfl) (cs := [.nd 0 .one, .nd 1 .one]) (by kernel_rfl) (by decide) e7 e11⟩
  have b17 : E1 11 = .agg [S, Sk] := env_of st.inn hE 11 (by kernel_rfl)
  have b18 : E1 12 = .agg [.int .i64 v0, .int .i64 v1, .flt .f32 v2, .flt .f32 v3, .flt .f32 v4, .flt .f32 v5] := env_of st.inn hE 12 (by kernel_rfl)
  have b19 : E1 2 = .flt .f32 bd := env_of st.inn hE 2 (by kernel_rfl)
  have g20 : Grew H H1 := (st.kept.grew (Nat.le_of_ble_eq_true (by kernel_rfl)))
  have g21 : Grew H H1 := Grew.trans (Grew.refl _) g20
  clear st hE vs ls
  refine res_call (d := (some 13)) (f := 76) (args := [.tmp 11, .tmp 12]) (by kernel_rfl) (R := fun z H' => Grew H1 H' ∧ ∃ S' Sk', z = .tuple [.agg [S', Sk'], .int .i64 (addK ms ks [.int .i64 v0, .int .i64 v1, .flt .f32 v2, .flt .f32 v3, .flt .f32 v4, .flt .f32 v5]).2.2] ∧ SlW H' 3 (addK ms ks [.int .i64 v0, .int .i64 v1, .flt .f32 v2, .flt .f32 v3, .flt .f32 v4, .flt .f32 v5]).1 S' ∧ FreshS H1.next S' ∧ SlW H' 6 (addK ms ks [.int .i64 v0, .int .i64 v1, .flt .f32 v2, .flt .f32 v3, .flt .f32 v4, .flt .f32 v5]).2.1 Sk' ∧ FreshS H1.next Sk' ∧ ApartS S' Sk') ?_ ?_
  · show ACalls _ _ [E1 11, E1 12] _ _
    rw [b17, b18]
    exact k_spec_AddLink H1 ms hr S (hS.grew g21) mxms ks hrk Sk (hSk.grew g21) mxks v0 v1 v2 v3 v4 v5 o2 o3 o4 o5
  rintro z H22 ⟨gH22, S23, S24, rfl, sS23, fS23, sS24, fS24, ap25⟩
  have ne26 : ApartL (S23) p2 := fS23.apartL (H1.lt_of_get r4)
  have ne27 : ApartL (S23) p6 := fS23.apartL (H1.lt_of_get r8)
  have ne28 : ApartL (S23) p10 := fS23.apartL (H1.lt_of_get r12)
  have fr29 : FreshS H.next (S23) := fS23.mono g21.next
  have ne30 : ApartL (S24) p2 := fS24.apartL (H1.lt_of_get r4)
  have ne31 : ApartL (S24) p6 := fS24.apartL (H1.lt_of_get r8)
  have ne32 : ApartL (S24) p10 := fS24.apartL (H1.lt_of_get r12)
  have fr33 : FreshS H.next (S24) := fS24.mono g21.next
  have g34 : Grew H H22 := Grew.trans g21 gH22
  have r35 := gH22.at r4
  have r36 := gH22.at r8
  have r37 := gH22.at r12
  refine run_mn (φ := φ0) (pm := pmR 2 [] 0) 20 (nk := [(.atom 0, .one), (.atom 1, .one), (.atom 2, .int .i64), (.atom 3, .int .i64), (.atom 4, .flt .f32), (.atom 5, .flt .f32), (.atom 6, .flt .f32), (.atom 7, .flt .f32), (.atom 8, .flt .f32), (.atom 9, .one), (.atom 10, .one), (.atom 11, .int .i64)]) (fs := []) (xs := [S, Sk, .int .i64 v0, .int .i64 v1, .flt .f32 v2, .flt .f32 v3, .flt .f32 v4, .flt .f32 v5, .flt .f32 bd, S23, S24, .int .i64 (addK ms ks [.int .i64 v0, .int .i64 v1, .flt .f32 v2, .flt .f32 v3, .flt .f32 v4, .flt .f32 v5]).2.2]) (ws := [⟨p6, 0, [.nd 0 .one, .nd 1 .one], false⟩, ⟨p10, 0, [.nd 2 (.int .i64), .nd 3 (.int .i64), .nd 4 (.flt .f32), .nd 5 (.flt .f32), .nd 6 (.flt .f32), .nd 7 (.flt .f32)], false⟩, ⟨p2, 0, [.lit .nilslice, .lit .nilslice], true⟩]) (env := [(11, .agg [.nd 0 .one, .nd 1 .one]), (12, .agg [.nd 2 (.int .i64), .nd 3 (.int .i64), .nd 4 (.flt .f32), .nd 5 (.flt .f32), .nd 6 (.flt .f32), .nd 7 (.flt .f32)]), (6, .ptr 2 0), (2, .nd 8 (.flt .f32)), (3, .ptr 0 0), (4, .ptr 1 0), (13, .tup [.agg [.nd 9 .one, .nd 10 .one], .nd 11 (.int .i64)])]) ?_ ?_ tb_ok ap_ok ?_
  · refine midN_in ?_ .nil _ ?_ ?_ ?_
    · exact (.cons rfl (slOne hS) (.cons rfl (slOne hSk) (.cons rfl ⟨_, rfl⟩ (.cons rfl ⟨_, rfl⟩ (.cons rfl ⟨_, rfl, o2⟩ (.cons rfl ⟨_, rfl, o3⟩ (.cons rfl ⟨_, rfl, o4⟩ (.cons rfl ⟨_, rfl, o5⟩ (.cons rfl ⟨_, rfl, hbd⟩ (.cons rfl sS23.one (.cons rfl sS24.one (.cons rfl ⟨_, rfl⟩ .nil))))))))))))
    · exact (.cons (win_row r36 (dlCons (dNd rfl (slOne hS)) (dlCons (dNd rfl (slOne hSk)) dlNil))) (.cons (win_row r37 (dlCons (dNd rfl ⟨_, rfl⟩) (dlCons (dNd rfl ⟨_, rfl⟩) (dlCons (dNd rfl ⟨_, rfl, o2⟩) (dlCons (dNd rfl ⟨_, rfl, o3⟩) (dlCons (dNd rfl ⟨_, rfl, o4⟩) (dlCons (dNd rfl ⟨_, rfl, o5⟩) dlNil))))))) (.cons (win_own r35 (dlCons (dLit rfl) (dlCons (dLit rfl) dlNil))) .nil)))
    · exact ⟨(fun v hv h => (by simp at hv; rcases hv with rfl | rfl <;> first | (simp at h; done) | exact Apart.ne (by assumption) | exact (Apart.ne (by assumption)).symm)), ⟨(fun v hv h => (by simp at hv; rcases hv with rfl <;> first | (simp at h; done) | exact Apart.ne (by assumption) | exact (Apart.ne (by assumption)).symm)), ⟨(fun v hv => (by cases hv)), trivial⟩⟩⟩
    · exact .nil
  · exact (envEq (put_ne rfl b17) (dAgg (dlCons (dNd rfl (slOne hS)) (dlCons (dNd rfl (slOne hSk)) dlNil))) (envEq (put_ne rfl b18) (dAgg (dlCons (dNd rfl ⟨_, rfl⟩) (dlCons (dNd rfl ⟨_, rfl⟩) (dlCons (dNd rfl ⟨_, rfl, o2⟩) (dlCons (dNd rfl ⟨_, rfl, o3⟩) (dlCons (dNd rfl ⟨_, rfl, o4⟩) (dlCons (dNd rfl ⟨_, rfl, o5⟩) dlNil))))))) (envEq (put_ne rfl e3) (dPtr (l := p2) (o := 0) rfl) (envEq (put_ne rfl b19) (dNd rfl ⟨_, rfl, hbd⟩) (envEq (put_ne rfl e7) (dPtr (l := p6) (o := 0) rfl) (envEq (put_ne rfl e11) (dPtr (l := p10) (o := 0) rfl) (envEq put_same (dTup' (dlCons (dAgg (dlCons (dNd rfl sS23.one) (dlCons (dNd rfl sS24.one) dlNil))) (dlCons (dNd rfl ⟨_, rfl⟩) dlNil))) envNil)))))))
  refine all4 (by kernel_rfl) ?_ ?_ ?_ ?_
  ·
    intro vs ls H38 E38 st hE
    have f39 : (addK ms ks [.int .i64 v0, .int .i64 v1, .flt .f32 v2, .flt .f32 v3, .flt .f32 v4, .flt .f32 v5]).2.2 = 1 := of_decide_eq_true (bfact (x := decide ((addK ms ks [.int .i64 v0, .int .i64 v1, .flt .f32 v2, .flt .f32 v3, .flt .f32 v4, .flt .f32 v5]).2.2 = 1)) st.inn 0 (by kernel_rfl))
    have gz : Grew H H38 := (grew_own g34 (st.inn.kept) ⟨op2, trivial⟩)
    have hc : takeF ms ks [.int .i64 v0, .int .i64 v1, .flt .f32 v2, .flt .f32 v3, .flt .f32 v4, .flt .f32 v5] bd = ([], [], (addK ms ks [.int .i64 v0, .int .i64 v1, .flt .f32 v2, .flt .f32 v3, .flt .f32 v4, .flt .f32 v5]).2.2) := by
      unfold takeF
      rw [if_pos f39]
      rw [show (addK ms ks [.int .i64 v0, .int .i64 v1, .flt .f32 v2, .flt .f32 v3, .flt .f32 v4, .flt .f32 v5]).2.2 = 1 from f39]
    exact res_ex (by kernel_rfl) (end_same st.inn hE (.inr rfl) (a := .tuple [.agg [.nilslice, .nilslice], .int .i64 (addK ms ks [.int .i64 v0, .int .i64 v1, .flt .f32 v2, .flt .f32 v3, .flt .f32 v4, .flt .f32 v5]).2.2]) (by kernel_rfl) gz.next (by rw [hc]; exact ⟨gz, _, _, rfl, (.nil rfl), FreshS.nil, (.nil rfl), FreshS.nil, ApartS.nil⟩))
  ·
    intro vs ls H40 E40 st hE
    have f41 : (ford .f32 bd bd == some .eq) = false := bfact st.inn 0 (by kernel_rfl)
    have f42 : ¬ ((addK ms ks [.int .i64 v0, .int .i64 v1, .flt .f32 v2, .flt .f32 v3, .flt .f32 v4, .flt .f32 v5]).2.2 = 1) := of_decide_eq_false (bfact (x := decide ((addK ms ks [.int .i64 v0, .int .i64 v1, .flt .f32 v2, .flt .f32 v3, .flt .f32 v4, .flt .f32 v5]).2.2 = 1)) st.inn 1 (by kernel_rfl))
    have gz : Grew H H40 := (grew_own g34 (st.inn.kept) ⟨op2, trivial⟩)
    have hc : takeF ms ks [.int .i64 v0, .int .i64 v1, .flt .f32 v2, .flt .f32 v3, .flt .f32 v4, .flt .f32 v5] bd = ([], [], 2) := by
      unfold takeF
      rw [if_neg f42]
      rw [if_pos (by rw [f41])]
    exact res_ex (by kernel_rfl) (end_same st.inn hE (.inr rfl) (a := .tuple [.agg [.nilslice, .nilslice], .int .i64 2]) (by kernel_rfl) gz.next (by rw [hc]; exact ⟨gz, _, _, rfl, (.nil rfl), FreshS.nil, (.nil rfl), FreshS.nil, ApartS.nil⟩))
  ·
    intro vs ls H43 E43 st hE
    have f44 : ¬ ((addK ms ks [.int .i64 v0, .int .i64 v1, .flt .f32 v2, .flt .f32 v3, .flt .f32 v4, .flt .f32 v5]).2.2 = 0) := of_decide_eq_false (bfact (x := decide ((addK ms ks [.int .i64 v0, .int .i64 v1, .flt .f32 v2, .flt .f32 v3, .flt .f32 v4, .flt .f32 v5]).2.2 = 0)) st.inn 0 (by kernel_rfl))
    have f45 : (ford .f32 bd bd == some .eq) = true := bfact st.inn 1 (by kernel_rfl)
    have f46 : ¬ ((addK ms ks [.int .i64 v0, .int .i64 v1, .flt .f32 v2, .flt .f32 v3, .flt .f32 v4, .flt .f32 v5]).2.2 = 1) := of_decide_eq_false (bfact (x := decide ((addK ms ks [.int .i64 v0, .int .i64 v1, .flt .f32 v2, .flt .f32 v3, .flt .f32 v4, .flt .f32 v5]).2.2 = 1)) st.inn 2 (by kernel_rfl))
    have gz : Grew H H43 := (grew_own g34 (st.inn.kept) ⟨op2, trivial⟩)
    have hc : takeF ms ks [.int .i64 v0, .int .i64 v1, .flt .f32 v2, .flt .f32 v3, .flt .f32 v4, .flt .f32 v5] bd = ([], [], (addK ms ks [.int .i64 v0, .int .i64 v1, .flt .f32 v2, .flt .f32 v3, .flt .f32 v4, .flt .f32 v5]).2.2) := by
      unfold takeF
      rw [if_neg f46]
      rw [if_neg (by rw [f45]; decide)]
      rw [if_neg f44]
    exact res_ex (by kernel_rfl) (end_same st.inn hE (.inr rfl) (a := .tuple [.agg [.nilslice, .nilslice], .int .i64 (addK ms ks [.int .i64 v0, .int .i64 v1, .flt .f32 v2, .flt .f32 v3, .flt .f32 v4, .flt .f32 v5]).2.2]) (by kernel_rfl) gz.next (by rw [hc]; exact ⟨gz, _, _, rfl, (.nil rfl), FreshS.nil, (.nil rfl), FreshS.nil, ApartS.nil⟩))
  ·
    intro vs ls H47 E47 st hE
    have f48 : (addK ms ks [.int .i64 v0, .int .i64 v1, .flt .f32 v2, .flt .f32 v3, .flt .f32 v4, .flt .f32 v5]).2.2 = 0 := of_decide_eq_true (bfact (x := decide ((addK ms ks [.int .i64 v0, .int .i64 v1, .flt .f32 v2, .flt .f32 v3, .flt .f32 v4, .flt .f32 v5]).2.2 = 0)) st.inn 0 (by kernel_rfl))
    have f49 : (ford .f32 bd bd == some .eq) = true := bfact st.inn 1 (by kernel_rfl)
    have f50 : ¬ ((addK ms ks [.int .i64 v0, .int .i64 v1, .flt .f32 v2, .flt .f32 v3, .flt .f32 v4, .flt .f32 v5]).2.2 = 1) := of_decide_eq_false (bfact (x := decide ((addK ms ks [.int .i64 v0, .int .i64 v1, .flt .f32 v2, .flt .f32 v3, .flt .f32 v4, .flt .f32 v5]).2.2 = 1)) st.inn 2 (by kernel_rfl))
    obtain ⟨p51, e52, r53, n54⟩ := ptr_of st.inn hE 8 3 (by kernel_rfl) (ds := [S23, S24]) (by kernel_rfl)
    have op51 : H.next ≤ p51 := Nat.le_trans g34.next (n54 (Nat.le_of_ble_eq_true rfl))
    have ne55 : Apart p51 p6 := ⟨Nat.ne_of_gt (Nat.lt_of_lt_of_le (H22.lt_of_get r36) (n54 (Nat.le_of_ble_eq_true rfl)))⟩
    have ne56 : Apart p51 p10 := ⟨Nat.ne_of_gt (Nat.lt_of_lt_of_le (H22.lt_of_get r37) (n54 (Nat.le_of_ble_eq_true rfl)))⟩
    have ne57 : Apart p51 p2 := ⟨Nat.ne_of_gt (Nat.lt_of_lt_of_le (H22.lt_of_get r35) (n54 (Nat.le_of_ble_eq_true rfl)))⟩
    have ne58 : ApartL (S23) p51 := sS23.apart_new (n54 (Nat.le_of_ble_eq_true rfl))
    have ne59 : ApartL (S24) p51 := sS24.apart_new (n54 (Nat.le_of_ble_eq_true rfl))
    have b60 : E47 3 = .ptr p6 0 := env_of st.inn hE 3 (by kernel_rfl)
    have b61 : E47 4 = .ptr p10 0 := env_of st.inn hE 4 (by kernel_rfl)
    have b62 : E47 2 = .flt .f32 bd := env_of st.inn hE 2 (by kernel_rfl)
    have b63 : E47 6 = .ptr p2 0 := env_of st.inn hE 6 (by kernel_rfl)
    have g64 : Grew H22 H47 := (st.kept.grew (Nat.le_of_ble_eq_true (by kernel_rfl)))
    have g65 : Grew H H47 := Grew.trans g34 g64
    have r66 := g64.at r36
    have r67 := g64.at r37
    have r68 := g64.at r35
    have s69 := sS23.grew g64
    have s70 := sS24.grew g64
    clear st hE vs ls
    refine res_call (d := (some 28)) (f := 69) (args := [.tmp 3, .tmp 4]) (by kernel_rfl) (R := fun z H' => z = .flt .f32 (sqF ms [.int .i64 v0, .int .i64 v1, .flt .f32 v2, .flt .f32 v3, .flt .f32 v4, .flt .f32 v5]) ∧ H' = H47) ?_ ?_
    · show ACalls _ _ [E47 3, E47 4] _ _
      rw [b60, b61]
      exact k_squareV H47 ms hr S (hS.grew g65) (mx40 mxms) Sk (slOne hSk) (okK_linkV v0 v1 v2 v3 v4 v5 o2 o3 o4 o5 (addK_zero f48)) p6 r66 p10 true r67
    rintro z H47 ⟨rfl, rfl⟩
    refine run_mn (φ := φ0) (pm := pmR 3 [] 0) 20 (nk := [(.atom 0, .one), (.atom 1, .one), (.atom 2, .int .i64), (.atom 3, .int .i64), (.atom 4, .flt .f32), (.atom 5, .flt .f32), (.atom 6, .flt .f32), (.atom 7, .flt .f32), (.atom 8, .flt .f32), (.atom 9, .one), (.atom 10, .one), (.atom 11, .int .i64), (.atom 12, .flt .f32)]) (fs := []) (xs := [S, Sk, .int .i64 v0, .int .i64 v1, .flt .f32 v2, .flt .f32 v3, .flt .f32 v4, .flt .f32 v5, .flt .f32 bd, S23, S24, .int .i64 (addK ms ks [.int .i64 v0, .int .i64 v1, .flt .f32 v2, .flt .f32 v3, .flt .f32 v4, .flt .f32 v5]).2.2, .flt .f32 (sqF ms [.int .i64 v0, .int .i64 v1, .flt .f32 v2, .flt .f32 v3, .flt .f32 v4, .flt .f32 v5])]) (ws := [⟨p6, 0, [.nd 0 .one, .nd 1 .one], false⟩, ⟨p10, 0, [.nd 2 (.int .i64), .nd 3 (.int .i64), .nd 4 (.flt .f32), .nd 5 (.flt .f32), .nd 6 (.flt .f32), .nd 7 (.flt .f32)], false⟩, ⟨p51, 0, [.nd 9 .one, .nd 10 .one], false⟩, ⟨p2, 0, [.lit .nilslice, .lit .nilslice], true⟩]) (env := [(3, .ptr 0 0), (4, .ptr 1 0), (2, .nd 8 (.flt .f32)), (6, .ptr 3 0), (8, .ptr 2 0), (28, .nd 12 (.flt .f32))]) ?_ ?_ tb_ok ap_ok ?_
    · refine midN_in ?_ .nil _ ?_ ?_ ?_
      · exact (.cons rfl (slOne hS) (.cons rfl (slOne hSk) (.cons rfl ⟨_, rfl⟩ (.cons rfl ⟨_, rfl⟩ (.cons rfl ⟨_, rfl, o2⟩ (.cons rfl ⟨_, rfl, o3⟩ (.cons rfl ⟨_, rfl, o4⟩ (.cons rfl ⟨_, rfl, o5⟩ (.cons rfl ⟨_, rfl, hbd⟩ (.cons rfl sS23.one (.cons rfl sS24.one (.cons rfl ⟨_, rfl⟩ (.cons rfl ⟨_, rfl, sqF_ok ms _⟩ .nil)))))))))))))
      · exact (.cons (win_row r66 (dlCons (dNd rfl (slOne hS)) (dlCons (dNd rfl (slOne hSk)) dlNil))) (.cons (win_row r67 (dlCons (dNd rfl ⟨_, rfl⟩) (dlCons (dNd rfl ⟨_, rfl⟩) (dlCons (dNd rfl ⟨_, rfl, o2⟩) (dlCons (dNd rfl ⟨_, rfl, o3⟩) (dlCons (dNd rfl ⟨_, rfl, o4⟩) (dlCons (dNd rfl ⟨_, rfl, o5⟩) dlNil))))))) (.cons (win_row r53 (dlCons (dNd rfl sS23.one) (dlCons (dNd rfl sS24.one) dlNil))) (.cons (win_own r68 (dlCons (dLit rfl) (dlCons (dLit rfl) dlNil))) .nil))))
      · exact ⟨(fun v hv h => (by simp at hv; rcases hv with rfl | rfl | rfl <;> first | (simp at h; done) | exact Apart.ne (by assumption) | exact (Apart.ne (by assumption)).symm)), ⟨(fun v hv h => (by simp at hv; rcases hv with rfl | rfl <;> first | (simp at h; done) | exact Apart.ne (by assumption) | exact (Apart.ne (by assumption)).symm)), ⟨(fun v hv h => (by simp at hv; rcases hv with rfl <;> first | (simp at h; done) | exact Apart.ne (by assumption) | exact (Apart.ne (by assumption)).symm)), ⟨(fun v hv => (by cases hv)), trivial⟩⟩⟩⟩
      · exact .nil
    · exact (envEq (put_ne rfl b60) (dPtr (l := p6) (o := 0) rfl) (envEq (put_ne rfl b61) (dPtr (l := p10) (o := 0) rfl) (envEq (put_ne rfl b62) (dNd rfl ⟨_, rfl, hbd⟩) (envEq (put_ne rfl b63) (dPtr (l := p2) (o := 0) rfl) (envEq (put_ne rfl e52) (dPtr (l := p51) (o := 0) rfl) (envEq put_same (dNd rfl ⟨_, rfl, sqF_ok ms _⟩) envNil))))))
    refine all2 (by kernel_rfl) ?_ ?_
    ·
      intro vs ls H71 E71 st hE
      have f72 : (ford .f32 (sqF ms [.int .i64 v0, .int .i64 v1, .flt .f32 v2, .flt .f32 v3, .flt .f32 v4, .flt .f32 v5]) bd == some .lt || ford .f32 (sqF ms [.int .i64 v0, .int .i64 v1, .flt .f32 v2, .flt .f32 v3, .flt .f32 v4, .flt .f32 v5]) bd == some .eq) = false := bfact st.inn 0 (by kernel_rfl)
      have gz : Grew H H71 := (grew_own g65 (st.inn.kept) ⟨op2, trivial⟩)
      have hc : takeF ms ks [.int .i64 v0, .int .i64 v1, .flt .f32 v2, .flt .f32 v3, .flt .f32 v4, .flt .f32 v5] bd = ([], [], 8) := by
        unfold takeF
        rw [if_neg f50]
        rw [if_neg (by rw [f49]; decide)]
        rw [if_pos f48]
        rw [if_neg (by rw [f72]; decide)]
      exact res_ex (by kernel_rfl) (end_same st.inn hE (.inr rfl) (a := .tuple [.agg [.nilslice, .nilslice], .int .i64 8]) (by kernel_rfl) gz.next (by rw [hc]; exact ⟨gz, _, _, rfl, (.nil rfl), FreshS.nil, (.nil rfl), FreshS.nil, ApartS.nil⟩))
    ·
      intro vs ls H73 E73 st hE
      have f74 : (ford .f32 (sqF ms [.int .i64 v0, .int .i64 v1, .flt .f32 v2, .flt .f32 v3, .flt .f32 v4, .flt .f32 v5]) bd == some .lt || ford .f32 (sqF ms [.int .i64 v0, .int .i64 v1, .flt .f32 v2, .flt .f32 v3, .flt .f32 v4, .flt .f32 v5]) bd == some .eq) = true := bfact st.inn 0 (by kernel_rfl)
      have gz : Grew H H73 := (grew_own g65 (st.inn.kept) ⟨op2, trivial⟩)
      have hc : takeF ms ks [.int .i64 v0, .int .i64 v1, .flt .f32 v2, .flt .f32 v3, .flt .f32 v4, .flt .f32 v5] bd = ((addK ms ks [.int .i64 v0, .int .i64 v1, .flt .f32 v2, .flt .f32 v3, .flt .f32 v4, .flt .f32 v5]).1, (addK ms ks [.int .i64 v0, .int .i64 v1, .flt .f32 v2, .flt .f32 v3, .flt .f32 v4, .flt .f32 v5]).2.1, 0) := by
        unfold takeF
        rw [if_neg f50]
        rw [if_neg (by rw [f49]; decide)]
        rw [if_pos f48]
        rw [if_pos f74]
        rw [show (0 : Int) = (addK ms ks [.int .i64 v0, .int .i64 v1, .flt .f32 v2, .flt .f32 v3, .flt .f32 v4, .flt .f32 v5]).2.2 from f48.symm]
      exact res_ex (by kernel_rfl) (end_same st.inn hE (.inr rfl) (a := .tuple [.agg [S23, S24], .int .i64 0]) (by kernel_rfl) gz.next (by rw [hc]; exact ⟨gz, _, _, rfl, (s69.keep st.inn.kept ⟨by assumption, trivial⟩), fr29, (s70.keep st.inn.kept ⟨by assumption, trivial⟩), fr33, (by first | assumption | exact ApartS.symm (by assumption))⟩))
end Go.Proofs.Ytcmoeocemmeofaa
