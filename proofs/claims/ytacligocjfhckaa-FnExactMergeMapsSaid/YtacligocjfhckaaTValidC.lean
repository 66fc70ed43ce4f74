/- Contracts: maps that are valid, by the program. -/
import Derived.Test.YtacligocjfhckaaTValid
set_option linter.unusedVariables false
set_option linter.unusedSimpArgs false
namespace Go.Proofs.Ytacligocjfhckaa
open Go.Ab
set_option maxRecDepth 100000
attribute [local irreducible] Res
theorem k_impl_ValidMap (H : AHeap) (x : Option Nat) (hx : fOk .f32 x) (S : AV) (ms : List (List AV)) (hr : Recs KM ms) (hS : SlL H 9 ms S) (hmax : ms.length < 2 ^ 40) : APure Try.prog 34 [.agg [.flt .f32 x, S]] H (.bool (okMap x ms)) := by
 refine res_start h_impl_ValidMap (by simp) ?_
 refine run_mn (φ := φ0) (pm := pmR 0 [(.len (.nd 1 .one), .nd 2 (.int .i64)), (.call 55 [.nd 0 (.flt .f32)], .nd 3 .bool)] 0) 20 (nk := [(.atom 0, .flt .f32), (.atom 1, .one), (.atom 2, .int .i64), (.atom 3, .bool)]) (fs := [])
  (xs := [.flt .f32 x, S, .int .i64 (ms.length : Int), .bool (sideB x)]) (ws := []) (env := [(0, .agg [.nd 0 (.flt .f32), .nd 1 .one])])
  ?_ ?_ tb_ok ap_ok ?_
 ·
  refine midN_in ?_ ?_ _ ?_ ?_ ?_
  ·
   exact .cons rfl ⟨_, rfl, hx⟩ (.cons rfl (slOne hS) (.cons rfl ⟨_, rfl⟩ (.cons rfl ⟨_, rfl⟩ .nil)))
  ·
   exact .nil
  ·
   exact .nil
  ·
   exact trivial
  ·
   exact .cons ⟨_, _, dNd rfl (slOne hS), dNd rfl ⟨_, rfl⟩, slLen hS⟩ (.cons (rule_call (dlCons (dNd rfl ⟨_, rfl, hx⟩) dlNil) (dNd rfl ⟨_, rfl⟩) (fun H _ => k_isSide x hx H)) .nil)
 ·
  exact envCons (dAgg (dlCons (dNd rfl ⟨_, rfl, hx⟩) (dlCons (dNd rfl (slOne hS)) dlNil))) envNil
 refine all3 (by kernel_rfl) ?_ ?_ ?_
 ·
  intro vs ls H' E' st hE
  have f0 : sideB x = false := bf st 0
  refine res_ex (by kernel_rfl) (end_flat st.inn hE (.inr rfl) (a := .bool false) (by kernel_rfl) (gk st) rfl ⟨?_, rfl⟩)
  rw [okMap, f0, Bool.false_and]
 ·
  intro vs ls H' E' st hE
  have f0 : decide ((200 : Int) < ms.length) = true := bf st 0
  refine res_ex (by kernel_rfl) (end_flat st.inn hE (.inr rfl) (a := .bool false) (by kernel_rfl) (gk st) rfl ⟨?_, rfl⟩)
  have : ¬ ms.length ≤ 200 := by have := of_decide_eq_true f0; omega
  rw [okMap, decide_eq_false this]; simp
 ·
  intro vs ls H' E' st hE
  have f0 : decide ((200 : Int) < ms.length) = false := bf st 0
  have f1 : sideB x = true := bf st 1
  have hg' : Grew H H' := (gk st)
  obtain ⟨l, e1, hg, _⟩ := ptr_of st.inn hE 1 0 (by kernel_rfl) (ds := [.flt .f32 x, S]) (by kernel_rfl)
  have e16 : E' 16 = S := env_of st.inn hE 16 (by kernel_rfl)
  have e17 : E' 17 = .int .i64 (ms.length : Int) := env_of st.inn hE 17 (by kernel_rfl)
  have e18 : E' 18 = .int .i64 ((0 : Nat) : Int) := env_of st.inn hE 18 (by kernel_rfl)
  clear st hE vs ls
  refine res_scan (by kernel_rfl) [(1, .ptr l 0), (16, S), (17, .int .i64 (ms.length : Int))] 18 ms.length (fun i => ∀ j, j < i → okAt ms j = true) (.cons e1 (.cons e16 (.cons e17 .nil))) e18 (Grew.refl H') (fun j hj => by omega) ?_
  intro i hi hI E2 H2 hs h18 hg2
  have hso := slOne hS
  have e1 := hs.head
  have e16 := hs.tail.head
  have e17 := hs.tail.tail.head
  rcases Nat.lt_or_ge i ms.length with hlt | hge
  ·
   cases hS with
   | nil h => rw [h] at hlt; simp at hlt
   | @sl ls0 n cap rest wr2 hgS hn hc =>
    have hgS2 := (hg'.trans hg2).at hgS
    subst hn
    obtain ⟨a, b, c, p, q, r, w, sn, la, hm, op, oq, orr, ow⟩ := recParts (hr.get hlt)
    have hD : ms.getD i [] = ms[i] := by simp [List.getD_eq_getElem?_getD, hlt]
    have hmk := hr.get hlt
    rcases i with _ | k
    ·
     refine run_mn (φ := φ0) (pm := pmR 2 [(.ia 9 (.nd 1 .one) (.lit (.int .i64 0)), .ptr 1 0), (.call 35 [.agg (nds 3 KM)], .nd 12 .bool)] 0) 20
      (nk := [(.atom 0, .flt .f32), (.atom 1, .one), (.atom 2, .int .i64)] ++ ([(.atom 3, .int .i32), (.atom 4, .int .i32), (.atom 5, .int .i32), (.atom 6, .flt .f32), (.atom 7, .flt .f32), (.atom 8, .flt .f32), (.atom 9, .flt .f32), (.atom 10, .int .i64), (.atom 11, .int .i64)] ++ [(.atom 12, .bool), (.bin .lss (.lit (.int .i64 0)) (.nd 2 (.int .i64)), .bool)]))
      (fs := [(13, true)]) (xs := [.flt .f32 x, .slice ls0 0 ms.length cap 9, .int .i64 (ms.length : Int), .int .i32 a, .int .i32 b, .int .i32 c, .flt .f32 p, .flt .f32 q, .flt .f32 r, .flt .f32 w, .int .i64 sn, .int .i64 la, .bool (markB ms[0]), .bool true])
      (ws := [⟨l, 0, [.nd 0 (.flt .f32), .nd 1 .one], false⟩, ⟨ls0, 0 * 9, nds 3 KM, false⟩]) (env := [(1, .ptr 0 0), (16, .nd 1 .one), (17, .nd 2 (.int .i64)), (18, .lit (.int .i64 0))]) ?_ ?_ tb_ok ap_ok ?_
     ·
      refine midN_in ?_ ?_ _ ?_ ?_ ?_
      ·
       (repeat (first | exact .nil | refine .cons rfl ⟨_, rfl⟩ ?_ | refine .cons rfl ⟨_, rfl, by assumption⟩ ?_ | refine .cons rfl (by assumption) ?_))
       refine .cons ⟨_, _, dLit rfl, dNd rfl ⟨_, rfl⟩, ?_⟩ ⟨_, rfl⟩ .nil
       show some (AV.bool (decide ((0 : Int) < ms.length))) = _
       rw [decide_eq_true (by omega)]
      ·
       exact .cons rfl .nil
      ·
       exact .cons (win_row (hg2.at hg) (by repeat (first | exact dlNil | refine dlCons (dNd rfl ⟨_, rfl⟩) ?_ | refine dlCons (dNd rfl ⟨_, rfl, by assumption⟩) ?_ | refine dlCons (dNd rfl (by assumption)) ?_))) (.cons (win_elem hr hgS2 hlt rfl (by rw [hm]; exact (by repeat (first | exact dlNil | refine dlCons (dNd rfl ⟨_, rfl⟩) ?_ | refine dlCons (dNd rfl ⟨_, rfl, by assumption⟩) ?_ | refine dlCons (dNd rfl (by assumption)) ?_)))) .nil)
      ·
       exact ⟨fun v hv h => (by simp at hv; subst hv; simp at h), ⟨fun v hv => (by cases hv), trivial⟩⟩
      ·
       exact .cons (rule_ia (k := 0) (dNd rfl rfl) (dLit rfl) (by omega) rfl) (.cons (rule_call (args := [.agg ms[0]]) (dlCons (dAgg (by rw [hm]; exact (by repeat (first | exact dlNil | refine dlCons (dNd rfl ⟨_, rfl⟩) ?_ | refine dlCons (dNd rfl ⟨_, rfl, by assumption⟩) ?_ | refine dlCons (dNd rfl (by assumption)) ?_)))) dlNil) (dNd rfl ⟨_, rfl⟩) (fun H3 hk => k_validMark ms[0] hmk H3)) .nil)
     ·
      exact envPtr (l := l) (o := 0) e1 rfl rfl (envNd e16 rfl hso (envNd e17 rfl ⟨_, rfl⟩ (envLit h18 rfl envNil)))
     ·
      refine all2 (by kernel_rfl) ?_ ?_
      ·
       intro vs ls H' E' st hE
       have f0 : markB ms[0] = false := bf st 0
       refine res_ret (by kernel_rfl) (end_flat st.inn hE (.inr rfl) (a := .bool false) (by kernel_rfl) ((hg'.trans hg2).trans (gk st)) rfl ⟨?_, rfl⟩)
       rw [okMap_at hlt (by rw [okAt, hD, f0]; rfl)]
      ·
       intro vs ls H' E' st hE
       have f0 : markB ms[0] = true := bf st 0
       refine res_next (sl := [(1, .ptr l 0), (16, .slice ls0 0 ms.length cap 9), (17, .int .i64 (ms.length : Int))]) (ti := 18) (i := 0) (Inv := fun i => ∀ j, j < i → okAt ms j = true) (by kernel_rfl) st.inn hE hlt (by kernel_rfl) (w := 1) (by kernel_rfl) rfl (hg2.trans (gk st)) ?_
       intro j hj
       obtain rfl : j = 0 := by omega
       rw [okAt, hD, f0]; rfl
    ·
     obtain ⟨a', b', c', p', q', r', w', sn', la', hm', op', oq', orr', ow'⟩ := recParts (hr.get (show k < ms.length by omega))
     have hD' : ms.getD k [] = ms[k] := by simp [List.getD_eq_getElem?_getD, show k < ms.length by omega]
     refine run_mn (φ := φ0) (pm := pmR 3 [(.ia 9 (.nd 1 .one) (.nd 3 (.int .i64)), .ptr 1 0), (.ia 9 (.nd 1 .one) (.nd 26 (.int .i64)), .ptr 2 0), (.call 35 [.agg (nds 4 KM)], .nd 22 .bool), (.call 56 [.agg (nds 4 K3), .agg (nds 13 K3)], .nd 23 (.int .i64))] 0) 20
      (nk := [(.atom 0, .flt .f32), (.atom 1, .one), (.atom 2, .int .i64), (.atom 3, .int .i64)] ++ ([(.atom 4, .int .i32), (.atom 5, .int .i32), (.atom 6, .int .i32), (.atom 7, .flt .f32), (.atom 8, .flt .f32), (.atom 9, .flt .f32), (.atom 10, .flt .f32), (.atom 11, .int .i64), (.atom 12, .int .i64)] ++ ([(.atom 13, .int .i32), (.atom 14, .int .i32), (.atom 15, .int .i32), (.atom 16, .flt .f32), (.atom 17, .flt .f32), (.atom 18, .flt .f32), (.atom 19, .flt .f32), (.atom 20, .int .i64), (.atom 21, .int .i64)] ++
       [(.atom 22, .bool), (.atom 23, .int .i64), (.bin .lss (.nd 3 (.int .i64)) (.nd 2 (.int .i64)), .bool), (.bin .lss (.lit (.int .i64 0)) (.nd 3 (.int .i64)), .bool), (.bin .sub (.nd 3 (.int .i64)) (.lit (.int .i64 1)), .int .i64)])))
      (fs := [(24, true), (25, true)]) (xs := [.flt .f32 x, .slice ls0 0 ms.length cap 9, .int .i64 (ms.length : Int), .int .i64 ((k + 1 : Nat) : Int), .int .i32 a, .int .i32 b, .int .i32 c, .flt .f32 p, .flt .f32 q, .flt .f32 r, .flt .f32 w, .int .i64 sn, .int .i64 la, .int .i32 a', .int .i32 b', .int .i32 c', .flt .f32 p', .flt .f32 q', .flt .f32 r', .flt .f32 w', .int .i64 sn', .int .i64 la',
       .bool (markB ms[k + 1]), .int .i64 (cmp3 a b c a' b' c'), .bool true, .bool true, .int .i64 (k : Int)])
      (ws := [⟨l, 0, [.nd 0 (.flt .f32), .nd 1 .one], false⟩, ⟨ls0, (k + 1) * 9, nds 4 KM, false⟩, ⟨ls0, k * 9, nds 13 KM, false⟩]) (env := [(1, .ptr 0 0), (16, .nd 1 .one), (17, .nd 2 (.int .i64)), (18, .nd 3 (.int .i64))]) ?_ ?_ tb_ok ap_ok ?_
     ·
      refine midN_in ?_ ?_ _ ?_ ?_ ?_
      ·
       (repeat (first | exact .nil | refine .cons rfl ⟨_, rfl⟩ ?_ | refine .cons rfl ⟨_, rfl, by assumption⟩ ?_ | refine .cons rfl (by assumption) ?_))
       refine .cons ⟨_, _, dNd rfl ⟨_, rfl⟩, dNd rfl ⟨_, rfl⟩, ?_⟩ ⟨_, rfl⟩ (.cons ⟨_, _, dLit rfl, dNd rfl ⟨_, rfl⟩, ?_⟩ ⟨_, rfl⟩ (.cons ⟨_, _, dNd rfl ⟨_, rfl⟩, dLit rfl, ?_⟩ ⟨_, rfl⟩ .nil))
       ·
        show some (AV.bool (decide (((k + 1 : Nat) : Int) < ms.length))) = _
        rw [decide_eq_true (by omega)]
       ·
        show some (AV.bool (decide ((0 : Int) < ((k + 1 : Nat) : Int)))) = _
        rw [decide_eq_true (by omega)]
       ·
        show some (AV.int .i64 (IntKind.i64.wrap (((k + 1 : Nat) : Int) - 1))) = _
        rw [wrap_i64 (by omega) (by omega)]; congr 2; omega
      ·
       exact .cons rfl (.cons rfl .nil)
      ·
       exact .cons (win_row (hg2.at hg) (by repeat (first | exact dlNil | refine dlCons (dNd rfl ⟨_, rfl⟩) ?_ | refine dlCons (dNd rfl ⟨_, rfl, by assumption⟩) ?_ | refine dlCons (dNd rfl (by assumption)) ?_))) (.cons (win_elem hr hgS2 hlt rfl (by rw [hm]; exact (by repeat (first | exact dlNil | refine dlCons (dNd rfl ⟨_, rfl⟩) ?_ | refine dlCons (dNd rfl ⟨_, rfl, by assumption⟩) ?_ | refine dlCons (dNd rfl (by assumption)) ?_)))) (.cons (win_elem hr hgS2 (show k < ms.length by omega) rfl (by rw [hm']; exact (by repeat (first | exact dlNil | refine dlCons (dNd rfl ⟨_, rfl⟩) ?_ | refine dlCons (dNd rfl ⟨_, rfl, by assumption⟩) ?_ | refine dlCons (dNd rfl (by assumption)) ?_)))) .nil))
      ·
       exact ⟨fun v hv h => (by simp at hv; rcases hv with rfl | rfl <;> simp at h), ⟨fun v hv h => (by simp at hv; subst hv; simp at h), ⟨fun v hv => (by cases hv), trivial⟩⟩⟩
      ·
       exact .cons (rule_ia (k := k + 1) (dNd rfl rfl) (dNd rfl ⟨_, rfl⟩) (by omega) rfl) (.cons (rule_ia (k := k) (dNd rfl rfl) (dNd rfl ⟨_, rfl⟩) (by omega) rfl)
        (.cons (rule_call (args := [.agg ms[k + 1]]) (dlCons (dAgg (by rw [hm]; exact (by repeat (first | exact dlNil | refine dlCons (dNd rfl ⟨_, rfl⟩) ?_ | refine dlCons (dNd rfl ⟨_, rfl, by assumption⟩) ?_ | refine dlCons (dNd rfl (by assumption)) ?_)))) dlNil) (dNd rfl ⟨_, rfl⟩) (fun H3 hk => k_validMark ms[k + 1] hmk H3)) (.cons (rule_call (dlCons (dAgg (by repeat (first | exact dlNil | refine dlCons (dNd rfl ⟨_, rfl⟩) ?_ | refine dlCons (dNd rfl ⟨_, rfl, by assumption⟩) ?_ | refine dlCons (dNd rfl (by assumption)) ?_))) (dlCons (dAgg (by repeat (first | exact dlNil | refine dlCons (dNd rfl ⟨_, rfl⟩) ?_ | refine dlCons (dNd rfl ⟨_, rfl, by assumption⟩) ?_ | refine dlCons (dNd rfl (by assumption)) ?_))) dlNil)) (dNd rfl ⟨_, rfl⟩) (fun H3 _ => k_comparePlaces H3 a b c a' b' c')) .nil)))
     ·
      exact envPtr (l := l) (o := 0) e1 rfl rfl (envNd e16 rfl hso (envNd e17 rfl ⟨_, rfl⟩ (envNd h18 rfl ⟨_, rfl⟩ envNil)))
     ·
      have hcm : cmpM ms[k] ms[k + 1] = cmp3 a' b' c' a b c := by rw [hm, hm']; rfl
      have han := cmp3_anti a b c a' b' c'
      refine all3 (by kernel_rfl) ?_ ?_ ?_
      ·
       intro vs ls H' E' st hE
       have f0 : markB ms[k + 1] = false := bf st 0
       refine res_ret (by kernel_rfl) (end_flat st.inn hE (.inr rfl) (a := .bool false) (by kernel_rfl) ((hg'.trans hg2).trans (gk st)) rfl ⟨?_, rfl⟩)
       rw [okMap_at hlt (by rw [okAt, hD, f0]; rfl)]
      ·
       intro vs ls H' E' st hE
       have f0' : decide (0 < cmp3 a b c a' b' c') = false := bf st 0
       have f0 : decide (cmp3 a' b' c' a b c < 0) = false := by have := of_decide_eq_false f0'; exact decide_eq_false (by omega)
       refine res_ret (by kernel_rfl) (end_flat st.inn hE (.inr rfl) (a := .bool false) (by kernel_rfl) ((hg'.trans hg2).trans (gk st)) rfl ⟨?_, rfl⟩)
       rw [okMap_at hlt (by rw [okAt, hD, Nat.add_sub_cancel, hD', hcm, f0]; simp)]
      ·
       intro vs ls H' E' st hE
       have f0' : decide (0 < cmp3 a b c a' b' c') = true := bf st 0
       have f0 : decide (cmp3 a' b' c' a b c < 0) = true := by have := of_decide_eq_true f0'; exact decide_eq_true (by omega)
       have f1 : markB ms[k + 1] = true := bf st 1
       refine res_next (sl := [(1, .ptr l 0), (16, .slice ls0 0 ms.length cap 9), (17, .int .i64 (ms.length : Int))]) (ti := 18) (i := k + 1) (Inv := fun i => ∀ j, j < i → okAt ms j = true) (by kernel_rfl) st.inn hE hlt (by kernel_rfl) (w := IntKind.i64.wrap (((k + 1 : Nat) : Int) + 1)) (by kernel_rfl) (wrap64 (by omega)) (hg2.trans (gk st)) ?_
       intro j hj
       rcases Nat.lt_or_ge j (k + 1) with h | h
       ·
        exact hI j h
       ·
        obtain rfl : j = k + 1 := by omega
        rw [okAt, hD, Nat.add_sub_cancel, hD', hcm, f0, f1]; simp
  ·
   obtain rfl : i = ms.length := by omega
   refine run_mn (φ := φ0) (pm := pmR 0 [] 0) 20 (nk := [(.atom 0, .flt .f32), (.atom 1, .one), (.atom 2, .int .i64), (.atom 3, .int .i64), (.bin .lss (.nd 3 (.int .i64)) (.nd 2 (.int .i64)), .bool)]) (fs := [(4, false)])
    (xs := [.flt .f32 x, S, .int .i64 (ms.length : Int), .int .i64 (ms.length : Int), .bool false]) (ws := []) (env := [(17, .nd 2 (.int .i64)), (18, .nd 3 (.int .i64))]) ?_ ?_ tb_ok ap_ok ?_
   ·
    refine midN_in ?_ ?_ _ ?_ ?_ ?_
    ·
     (repeat (first | exact .nil | refine .cons rfl ⟨_, rfl⟩ ?_ | refine .cons rfl ⟨_, rfl, by assumption⟩ ?_ | refine .cons rfl (by assumption) ?_))
     refine .cons ⟨_, _, dNd rfl ⟨_, rfl⟩, dNd rfl ⟨_, rfl⟩, ?_⟩ ⟨_, rfl⟩ .nil
     show some (AV.bool (decide ((ms.length : Int) < (ms.length : Int)))) = _
     rw [decide_eq_false (by omega)]
    ·
     exact .cons rfl .nil
    ·
     exact .nil
    ·
     exact trivial
    ·
     exact .nil
   ·
    exact envNd e17 rfl ⟨_, rfl⟩ (envNd h18 rfl ⟨_, rfl⟩ envNil)
   ·
    refine all1 (by kernel_rfl) ?_
    intro vs ls H3 E3 st hE
    have hg3 : Grew H H3 := (hg'.trans hg2).trans (gk st)
    clear st hE vs ls
    refine res_exit (id := 0) (by kernel_rfl) ?_
    refine run_mn (φ := φ0) (pm := pmR 0 [] 0) 20 (nk := []) (fs := []) (xs := []) (ws := []) (env := []) (midN_in .nil .nil _ .nil trivial .nil) envNil tb_ok ap_ok ?_
    refine all1 (by kernel_rfl) ?_
    intro vs ls H4 E4 st hE
    refine res_ex (by kernel_rfl) (end_flat st.inn hE (.inr rfl) (a := .bool true) (by kernel_rfl) (hg3.trans (gk st)) rfl ⟨?_, rfl⟩)
    rw [okMap_true f1 (by have := of_decide_eq_false f0; omega) (fun i hi => hI i hi)]
end Go.Proofs.Ytacligocjfhckaa
