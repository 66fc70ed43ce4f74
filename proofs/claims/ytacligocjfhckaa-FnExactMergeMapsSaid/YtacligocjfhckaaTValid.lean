/- Contracts: maps that are valid. -/
import Derived.Test.YtacligocjfhckaaTMark
set_option linter.unusedVariables false
set_option linter.unusedSimpArgs false
namespace Go.Proofs.Ytacligocjfhckaa
open Go.Ab
set_option maxRecDepth 100000
attribute [local irreducible] Res
def cmpM : List AV → List AV → Int
 | .int _ a :: .int _ b :: .int _ c :: _, .int _ a' :: .int _ b' :: .int _ c' :: _ => cmp3 a b c a' b' c'
 | _, _ => 0
noncomputable def okAt (ms : List (List AV)) (i : Nat) : Bool := markB (ms.getD i []) && (i == 0 || decide (cmpM (ms.getD (i - 1) []) (ms.getD i []) < 0))
noncomputable def okMap (x : Option Nat) (ms : List (List AV)) : Bool := sideB x && (decide (ms.length ≤ 200) && (List.range ms.length).all (okAt ms))
theorem okMap_true {x : Option Nat} {ms : List (List AV)} (h1 : sideB x = true) (h2 : ms.length ≤ 200) (h3 : ∀ i, i < ms.length → okAt ms i = true) : okMap x ms = true := by
 simp only [okMap, h1, Bool.true_and, Bool.and_eq_true, decide_eq_true_eq, List.all_eq_true, List.mem_range]
 exact ⟨h2, h3⟩
theorem okMap_at {x : Option Nat} {ms : List (List AV)} {i : Nat} (hi : i < ms.length) (h : okAt ms i = false) : okMap x ms = false := by
 cases hb : okMap x ms with
 | false => rfl
 | true =>
  simp only [okMap, Bool.and_eq_true, List.all_eq_true, List.mem_range] at hb
  rw [hb.2.2 i hi] at h; cases h
theorem recParts {m : List AV} (h : KdsL KM m) : ∃ (a b c : Int) (x y z w : Option Nat) (s l : Int), m = [.int .i32 a, .int .i32 b, .int .i32 c, .flt .f32 x, .flt .f32 y, .flt .f32 z, .flt .f32 w, .int .i64 s, .int .i64 l] ∧ fOk .f32 x ∧ fOk .f32 y ∧ fOk .f32 z ∧ fOk .f32 w := by
 cases h with | cons h1 h => cases h with | cons h2 h => cases h with | cons h3 h => cases h with | cons h4 h => cases h with | cons h5 h => cases h with | cons h6 h => cases h with | cons h7 h => cases h with | cons h8 h => cases h with | cons h9 h =>
 cases h
 obtain ⟨a, rfl⟩ := h1; obtain ⟨b, rfl⟩ := h2; obtain ⟨c, rfl⟩ := h3
 obtain ⟨x, rfl, hx⟩ := h4; obtain ⟨y, rfl, hy⟩ := h5; obtain ⟨z, rfl, hz⟩ := h6; obtain ⟨w, rfl, hw⟩ := h7
 obtain ⟨s, rfl⟩ := h8; obtain ⟨l, rfl⟩ := h9
 exact ⟨a, b, c, x, y, z, w, s, l, rfl, hx, hy, hz, hw⟩
theorem k_l05Ok (H : AHeap) (l : Nat) (x : Option Nat) (hx : fOk .f32 x) (S : AV) (wr : Bool) (ms : List (List AV)) (hr : Recs KM ms) (hg : H.get l = some (.row [.flt .f32 x, S] wr)) (hS : SlL H 9 ms S) (hmax : ms.length < 2 ^ 40) : APure Try.prog 28 [.ptr l 0] H (.bool (okMap x ms)) := by
 refine res_start h_spec_l05Ok (by simp) ?_
 refine run_mn (φ := φ0) (pm := pmR 1 [(.len (.nd 1 .one), .nd 2 (.int .i64)), (.call 47 [.nd 0 (.flt .f32)], .nd 3 .bool)] 0) 20 (nk := [(.atom 0, .flt .f32), (.atom 1, .one), (.atom 2, .int .i64), (.atom 3, .bool)]) (fs := [])
  (xs := [.flt .f32 x, S, .int .i64 (ms.length : Int), .bool (sideB x)]) (ws := [⟨l, 0, [.nd 0 (.flt .f32), .nd 1 .one], false⟩]) (env := [(0, .ptr 0 0)])
  ?_ ?_ tb_ok ap_ok ?_
 ·
  refine midN_in ?_ ?_ _ ?_ ?_ ?_
  ·
   exact .cons rfl ⟨_, rfl, hx⟩ (.cons rfl (slOne hS) (.cons rfl ⟨_, rfl⟩ (.cons rfl ⟨_, rfl⟩ .nil)))
  ·
   exact .nil
  ·
   exact .cons (win_row hg (dlCons (dNd rfl ⟨_, rfl, hx⟩) (dlCons (dNd rfl (slOne hS)) dlNil))) .nil
  ·
   exact ⟨fun v hv => (by cases hv), trivial⟩
  ·
   exact .cons ⟨_, _, dNd rfl (slOne hS), dNd rfl ⟨_, rfl⟩, slLen hS⟩ (.cons (rule_call (dlCons (dNd rfl ⟨_, rfl, hx⟩) dlNil) (dNd rfl ⟨_, rfl⟩) (fun H _ => k_l05Side x hx H)) .nil)
 ·
  exact envPtr (l := l) (o := 0) rfl rfl rfl envNil
 refine all3 (by kernel_rfl) ?_ ?_ ?_
 ·
  intro vs ls H' E' st hE
  have f0 : sideB x = false := bf st 0
  refine res_ex (by kernel_rfl) (end_flat st.inn hE (.inr rfl) (a := .bool false) (by kernel_rfl) (gk st) rfl ⟨?_, rfl⟩)
  rw [okMap, f0, Bool.false_and]
 ·
  intro vs ls H' E' st hE
  have f0 : decide ((200 : Int) < ms.length) = true := bf st 0
  refine res_ex (by kernel_rfl) (end_flat st.inn hE (.inr rfl) (a := .bool false) (by kernel_rfl) (gk st) rfl ⟨?_, rfl⟩)
  have : ¬ ms.length ≤ 200 := by have := of_decide_eq_true f0; omega
  rw [okMap, decide_eq_false this]; simp
 ·
  intro vs ls H' E' st hE
  have f0 : decide ((200 : Int) < ms.length) = false := bf st 0
  have f1 : sideB x = true := bf st 1
  have hg' : Grew H H' := (gk st)
  have e0 : E' 0 = .ptr l 0 := env_of st.inn hE 0 (by kernel_rfl)
  have e3 : E' 3 = .int .i64 ((0 : Nat) : Int) := env_of st.inn hE 3 (by kernel_rfl)
  clear st hE vs ls
  refine res_scan (by kernel_rfl) [(0, .ptr l 0)] 3 ms.length (fun i => ∀ j, j < i → okAt ms j = true) (.cons e0 .nil) e3 hg' (fun j hj => by omega) ?_
  intro i hi hI E2 H2 hs h3 hg2
  have hso := slOne hS
  have e0 := hs.head
  rcases Nat.lt_or_ge i ms.length with hlt | hge
  ·
   cases hS with
   | nil h => rw [h] at hlt; simp at hlt
   | @sl ls0 n cap rest wr2 hgS hn hc =>
    have hgS2 := hg2.at hgS
    obtain ⟨a, b, c, p, q, r, w, sn, la, hm, op, oq, orr, ow⟩ := recParts (hr.get hlt)
    have hD : ms.getD i [] = ms[i] := by simp [List.getD_eq_getElem?_getD, hlt]
    have hmk := hr.get hlt
    rcases i with _ | k
    ·
     refine run_mn (φ := φ0) (pm := pmR 2 [(.len (.nd 1 .one), .nd 2 (.int .i64)), (.ia 9 (.nd 1 .one) (.lit (.int .i64 0)), .ptr 1 0), (.call 29 [.ptr 1 0], .nd 12 .bool)] 0) 20
      (nk := [(.atom 0, .flt .f32), (.atom 1, .one), (.atom 2, .int .i64)] ++ ([(.atom 3, .int .i32), (.atom 4, .int .i32), (.atom 5, .int .i32), (.atom 6, .flt .f32), (.atom 7, .flt .f32), (.atom 8, .flt .f32), (.atom 9, .flt .f32), (.atom 10, .int .i64), (.atom 11, .int .i64)] ++ [(.atom 12, .bool), (.bin .lss (.lit (.int .i64 0)) (.nd 2 (.int .i64)), .bool)]))
      (fs := [(13, true)]) (xs := [.flt .f32 x, .slice ls0 0 n cap 9, .int .i64 (n : Int), .int .i32 a, .int .i32 b, .int .i32 c, .flt .f32 p, .flt .f32 q, .flt .f32 r, .flt .f32 w, .int .i64 sn, .int .i64 la, .bool (markB ms[0]), .bool true])
      (ws := [⟨l, 0, [.nd 0 (.flt .f32), .nd 1 .one], false⟩, ⟨ls0, 0 * 9, nds 3 KM, false⟩]) (env := [(0, .ptr 0 0), (3, .lit (.int .i64 0))]) ?_ ?_ tb_ok ap_ok ?_
     ·
      refine midN_in ?_ ?_ _ ?_ ?_ ?_
      ·
       (repeat (first | exact .nil | refine .cons rfl ⟨_, rfl⟩ ?_ | refine .cons rfl ⟨_, rfl, by assumption⟩ ?_ | refine .cons rfl (by assumption) ?_))
       refine .cons ⟨_, _, dLit rfl, dNd rfl ⟨_, rfl⟩, ?_⟩ ⟨_, rfl⟩ .nil
       show some (AV.bool (decide ((0 : Int) < n))) = _
       rw [decide_eq_true (by omega)]
      ·
       exact .cons rfl .nil
      ·
       exact .cons (win_row (hg2.at hg) (by repeat (first | exact dlNil | refine dlCons (dNd rfl ⟨_, rfl⟩) ?_ | refine dlCons (dNd rfl ⟨_, rfl, by assumption⟩) ?_ | refine dlCons (dNd rfl (by assumption)) ?_))) (.cons (win_elem hr hgS2 hlt rfl (by rw [hm]; exact (by repeat (first | exact dlNil | refine dlCons (dNd rfl ⟨_, rfl⟩) ?_ | refine dlCons (dNd rfl ⟨_, rfl, by assumption⟩) ?_ | refine dlCons (dNd rfl (by assumption)) ?_)))) .nil)
      ·
       exact ⟨fun v hv h => (by simp at hv; subst hv; simp at h), ⟨fun v hv => (by cases hv), trivial⟩⟩
      ·
       refine .cons (rule_len (o := 0) (dNd rfl rfl) (dNd rfl ⟨_, rfl⟩)) (.cons (rule_ia (k := 0) (dNd rfl rfl) (dLit rfl) (by omega) rfl) (.cons (rule_call (dlCons (dPtr (l := ls0) (o := 0 * 9) rfl) dlNil) (dNd rfl ⟨_, rfl⟩) (fun H3 hk => ?_)) .nil))
       obtain ⟨pre, post, g1, g2⟩ := flat_split hr.len hlt rest
       exact k_l05Mark ms[0] hmk (by rw [(hk.grew (Nat.le_refl _)).at hgS2, g1]) g2
     ·
      exact envPtr (l := l) (o := 0) e0 rfl rfl (envLit h3 rfl envNil)
     ·
      refine all2 (by kernel_rfl) ?_ ?_
      ·
       intro vs ls H' E' st hE
       have f0 : markB ms[0] = false := bf st 0
       refine res_ret (by kernel_rfl) (end_flat st.inn hE (.inr rfl) (a := .bool false) (by kernel_rfl) (hg2.trans (gk st)) rfl ⟨?_, rfl⟩)
       rw [okMap_at hlt (by rw [okAt, hD, f0]; rfl)]
      ·
       intro vs ls H' E' st hE
       have f0 : markB ms[0] = true := bf st 0
       refine res_next (sl := [(0, .ptr l 0)]) (ti := 3) (i := 0) (Inv := fun i => ∀ j, j < i → okAt ms j = true) (by kernel_rfl) st.inn hE hlt (by kernel_rfl) (w := 1) (by kernel_rfl) rfl (hg2.trans (gk st)) ?_
       intro j hj
       obtain rfl : j = 0 := by omega
       rw [okAt, hD, f0]; rfl
    ·
     obtain ⟨a', b', c', p', q', r', w', sn', la', hm', op', oq', orr', ow'⟩ := recParts (hr.get (show k < ms.length by omega))
     have hD' : ms.getD k [] = ms[k] := by simp [List.getD_eq_getElem?_getD, show k < ms.length by omega]
     refine run_mn (φ := φ0) (pm := pmR 3 [(.len (.nd 1 .one), .nd 2 (.int .i64)), (.ia 9 (.nd 1 .one) (.nd 3 (.int .i64)), .ptr 1 0), (.ia 9 (.nd 1 .one) (.nd 26 (.int .i64)), .ptr 2 0), (.call 29 [.ptr 1 0], .nd 22 .bool), (.call 48 [.agg (nds 13 K3), .agg (nds 4 K3)], .nd 23 (.int .i64))] 0) 20
      (nk := [(.atom 0, .flt .f32), (.atom 1, .one), (.atom 2, .int .i64), (.atom 3, .int .i64)] ++ ([(.atom 4, .int .i32), (.atom 5, .int .i32), (.atom 6, .int .i32), (.atom 7, .flt .f32), (.atom 8, .flt .f32), (.atom 9, .flt .f32), (.atom 10, .flt .f32), (.atom 11, .int .i64), (.atom 12, .int .i64)] ++ ([(.atom 13, .int .i32), (.atom 14, .int .i32), (.atom 15, .int .i32), (.atom 16, .flt .f32), (.atom 17, .flt .f32), (.atom 18, .flt .f32), (.atom 19, .flt .f32), (.atom 20, .int .i64), (.atom 21, .int .i64)] ++
       [(.atom 22, .bool), (.atom 23, .int .i64), (.bin .lss (.nd 3 (.int .i64)) (.nd 2 (.int .i64)), .bool), (.bin .lss (.lit (.int .i64 0)) (.nd 3 (.int .i64)), .bool), (.bin .sub (.nd 3 (.int .i64)) (.lit (.int .i64 1)), .int .i64)])))
      (fs := [(24, true), (25, true)]) (xs := [.flt .f32 x, .slice ls0 0 n cap 9, .int .i64 (n : Int), .int .i64 ((k + 1 : Nat) : Int), .int .i32 a, .int .i32 b, .int .i32 c, .flt .f32 p, .flt .f32 q, .flt .f32 r, .flt .f32 w, .int .i64 sn, .int .i64 la, .int .i32 a', .int .i32 b', .int .i32 c', .flt .f32 p', .flt .f32 q', .flt .f32 r', .flt .f32 w', .int .i64 sn', .int .i64 la',
       .bool (markB ms[k + 1]), .int .i64 (cmp3 a' b' c' a b c), .bool true, .bool true, .int .i64 (k : Int)])
      (ws := [⟨l, 0, [.nd 0 (.flt .f32), .nd 1 .one], false⟩, ⟨ls0, (k + 1) * 9, nds 4 KM, false⟩, ⟨ls0, k * 9, nds 13 KM, false⟩]) (env := [(0, .ptr 0 0), (3, .nd 3 (.int .i64))]) ?_ ?_ tb_ok ap_ok ?_
     ·
      refine midN_in ?_ ?_ _ ?_ ?_ ?_
      ·
       (repeat (first | exact .nil | refine .cons rfl ⟨_, rfl⟩ ?_ | refine .cons rfl ⟨_, rfl, by assumption⟩ ?_ | refine .cons rfl (by assumption) ?_))
       refine .cons ⟨_, _, dNd rfl ⟨_, rfl⟩, dNd rfl ⟨_, rfl⟩, ?_⟩ ⟨_, rfl⟩ (.cons ⟨_, _, dLit rfl, dNd rfl ⟨_, rfl⟩, ?_⟩ ⟨_, rfl⟩ (.cons ⟨_, _, dNd rfl ⟨_, rfl⟩, dLit rfl, ?_⟩ ⟨_, rfl⟩ .nil))
       ·
        show some (AV.bool (decide (((k + 1 : Nat) : Int) < n))) = _
        rw [decide_eq_true (by omega)]
       ·
        show some (AV.bool (decide ((0 : Int) < ((k + 1 : Nat) : Int)))) = _
        rw [decide_eq_true (by omega)]
       ·
        show some (AV.int .i64 (IntKind.i64.wrap (((k + 1 : Nat) : Int) - 1))) = _
        rw [wrap_i64 (by omega) (by omega)]; congr 2; omega
      ·
       exact .cons rfl (.cons rfl .nil)
      ·
       exact .cons (win_row (hg2.at hg) (by repeat (first | exact dlNil | refine dlCons (dNd rfl ⟨_, rfl⟩) ?_ | refine dlCons (dNd rfl ⟨_, rfl, by assumption⟩) ?_ | refine dlCons (dNd rfl (by assumption)) ?_))) (.cons (win_elem hr hgS2 hlt rfl (by rw [hm]; exact (by repeat (first | exact dlNil | refine dlCons (dNd rfl ⟨_, rfl⟩) ?_ | refine dlCons (dNd rfl ⟨_, rfl, by assumption⟩) ?_ | refine dlCons (dNd rfl (by assumption)) ?_)))) (.cons (win_elem hr hgS2 (show k < ms.length by omega) rfl (by rw [hm']; exact (by repeat (first | exact dlNil | refine dlCons (dNd rfl ⟨_, rfl⟩) ?_ | refine dlCons (dNd rfl ⟨_, rfl, by assumption⟩) ?_ | refine dlCons (dNd rfl (by assumption)) ?_)))) .nil))
      ·
       exact ⟨fun v hv h => (by simp at hv; rcases hv with rfl | rfl <;> simp at h), ⟨fun v hv h => (by simp at hv; subst hv; simp at h), ⟨fun v hv => (by cases hv), trivial⟩⟩⟩
      ·
       refine .cons (rule_len (o := 0) (dNd rfl rfl) (dNd rfl ⟨_, rfl⟩)) (.cons (rule_ia (k := k + 1) (dNd rfl rfl) (dNd rfl ⟨_, rfl⟩) (by omega) rfl) (.cons (rule_ia (k := k) (dNd rfl rfl) (dNd rfl ⟨_, rfl⟩) (by omega) rfl)
        (.cons (rule_call (dlCons (dPtr (l := ls0) (o := (k + 1) * 9) rfl) dlNil) (dNd rfl ⟨_, rfl⟩) (fun H3 hk => ?_)) (.cons (rule_call (dlCons (dAgg (by repeat (first | exact dlNil | refine dlCons (dNd rfl ⟨_, rfl⟩) ?_ | refine dlCons (dNd rfl ⟨_, rfl, by assumption⟩) ?_ | refine dlCons (dNd rfl (by assumption)) ?_))) (dlCons (dAgg (by repeat (first | exact dlNil | refine dlCons (dNd rfl ⟨_, rfl⟩) ?_ | refine dlCons (dNd rfl ⟨_, rfl, by assumption⟩) ?_ | refine dlCons (dNd rfl (by assumption)) ?_))) dlNil)) (dNd rfl ⟨_, rfl⟩) (fun H3 _ => k_l05Compare H3 a' b' c' a b c)) .nil))))
       obtain ⟨pre, post, g1, g2⟩ := flat_split hr.len hlt rest
       exact k_l05Mark ms[k + 1] hmk (by rw [(hk.grew (Nat.le_refl _)).at hgS2, g1]) g2
     ·
      exact envPtr (l := l) (o := 0) e0 rfl rfl (envNd h3 rfl ⟨_, rfl⟩ envNil)
     ·
      have hcm : cmpM ms[k] ms[k + 1] = cmp3 a' b' c' a b c := by rw [hm, hm']; rfl
      refine all3 (by kernel_rfl) ?_ ?_ ?_
      ·
       intro vs ls H' E' st hE
       have f0 : markB ms[k + 1] = false := bf st 0
       refine res_ret (by kernel_rfl) (end_flat st.inn hE (.inr rfl) (a := .bool false) (by kernel_rfl) (hg2.trans (gk st)) rfl ⟨?_, rfl⟩)
       rw [okMap_at hlt (by rw [okAt, hD, f0]; rfl)]
      ·
       intro vs ls H' E' st hE
       have f0 : decide (cmp3 a' b' c' a b c < 0) = false := bf st 0
       refine res_ret (by kernel_rfl) (end_flat st.inn hE (.inr rfl) (a := .bool false) (by kernel_rfl) (hg2.trans (gk st)) rfl ⟨?_, rfl⟩)
       rw [okMap_at hlt (by rw [okAt, hD, Nat.add_sub_cancel, hD', hcm, f0]; simp)]
      ·
       intro vs ls H' E' st hE
       have f0 : decide (cmp3 a' b' c' a b c < 0) = true := bf st 0
       have f1 : markB ms[k + 1] = true := bf st 1
       refine res_next (sl := [(0, .ptr l 0)]) (ti := 3) (i := k + 1) (Inv := fun i => ∀ j, j < i → okAt ms j = true) (by kernel_rfl) st.inn hE hlt (by kernel_rfl) (w := IntKind.i64.wrap (((k + 1 : Nat) : Int) + 1)) (by kernel_rfl) (wrap64 (by omega)) (hg2.trans (gk st)) ?_
       intro j hj
       rcases Nat.lt_or_ge j (k + 1) with h | h
       ·
        exact hI j h
       ·
        obtain rfl : j = k + 1 := by omega
        rw [okAt, hD, Nat.add_sub_cancel, hD', hcm, f0, f1]; simp
  ·
   obtain rfl : i = ms.length := by omega
   refine run_mn (φ := φ0) (pm := pmR 1 [(.len (.nd 1 .one), .nd 2 (.int .i64))] 0) 20 (nk := [(.atom 0, .flt .f32), (.atom 1, .one), (.atom 2, .int .i64), (.atom 3, .int .i64), (.bin .lss (.nd 3 (.int .i64)) (.nd 2 (.int .i64)), .bool)]) (fs := [(4, false)])
    (xs := [.flt .f32 x, S, .int .i64 (ms.length : Int), .int .i64 (ms.length : Int), .bool false]) (ws := [⟨l, 0, [.nd 0 (.flt .f32), .nd 1 .one], false⟩]) (env := [(0, .ptr 0 0), (3, .nd 3 (.int .i64))]) ?_ ?_ tb_ok ap_ok ?_
   ·
    refine midN_in ?_ ?_ _ ?_ ?_ ?_
    ·
     (repeat (first | exact .nil | refine .cons rfl ⟨_, rfl⟩ ?_ | refine .cons rfl ⟨_, rfl, by assumption⟩ ?_ | refine .cons rfl (by assumption) ?_))
     refine .cons ⟨_, _, dNd rfl ⟨_, rfl⟩, dNd rfl ⟨_, rfl⟩, ?_⟩ ⟨_, rfl⟩ .nil
     show some (AV.bool (decide ((ms.length : Int) < (ms.length : Int)))) = _
     rw [decide_eq_false (by omega)]
    ·
     exact .cons rfl .nil
    ·
     exact .cons (win_row (hg2.at hg) (by repeat (first | exact dlNil | refine dlCons (dNd rfl ⟨_, rfl⟩) ?_ | refine dlCons (dNd rfl ⟨_, rfl, by assumption⟩) ?_ | refine dlCons (dNd rfl (by assumption)) ?_))) .nil
    ·
     exact ⟨fun v hv => (by cases hv), trivial⟩
    ·
     exact .cons ⟨_, _, dNd rfl hso, dNd rfl ⟨_, rfl⟩, slLen hS⟩ .nil
   ·
    exact envPtr (l := l) (o := 0) e0 rfl rfl (envNd h3 rfl ⟨_, rfl⟩ envNil)
   ·
    refine all1 (by kernel_rfl) ?_
    intro vs ls H3 E3 st hE
    have hg3 : Grew H H3 := hg2.trans (gk st)
    clear st hE vs ls
    refine res_exit (id := 0) (by kernel_rfl) ?_
    refine run_mn (φ := φ0) (pm := pmR 0 [] 0) 20 (nk := []) (fs := []) (xs := []) (ws := []) (env := []) (midN_in .nil .nil _ .nil trivial .nil) envNil tb_ok ap_ok ?_
    refine all1 (by kernel_rfl) ?_
    intro vs ls H4 E4 st hE
    refine res_ex (by kernel_rfl) (end_flat st.inn hE (.inr rfl) (a := .bool true) (by kernel_rfl) (hg3.trans (gk st)) rfl ⟨?_, rfl⟩)
    rw [okMap_true f1 (by have := of_decide_eq_false f0; omega) (fun i hi => hI i hi)]
end Go.Proofs.Ytacligocjfhckaa
