/- Contracts: maps that are the same. -/
import Derived.Test.YtgjhjemmddojfaaMap
import Derived.Test.YtgjhjemmddojfaaSx13
set_option linter.unusedVariables false
set_option linter.unusedSimpArgs false
namespace Go.Proofs.Ytgjhjemmddojfaa
open Go.Ab
set_option maxRecDepth 100000
attribute [local irreducible] Res
theorem e_sameNum (x y : Option Nat) (h : fOk .f32 x ∧ fOk .f32 y) : ∃ b : Bool, ∀ H, APure Try.prog 58 [.flt .f32 x, .flt .f32 y] H (.bool b) ∧ APure Try.prog 94 [.flt .f32 x, .flt .f32 y] H (.bool b) := by
  obtain ⟨b, h2⟩ := pair_flatB (φ := φ0) (pm := pm) 20 (f := 94) (g := 58) rfl rfl tb_ok ap_ok (gk := [(false, [.flt .f32, .flt .f32])]) (gv := [(false, [.flt .f32 x, .flt .f32 y])]) (.cons (.cons ⟨_, rfl, h.1⟩ (.cons ⟨_, rfl, h.2⟩ .nil)) .nil) (by decide) (by kernel_rfl)
  exact ⟨b, fun H => ⟨(h2 H).2, (h2 H).1⟩⟩
theorem e_sameMark (m m' : List AV) (h : KdsL KM m ∧ KdsL KM m') : ∃ b : Bool, (∀ H, APure Try.prog 71 [.agg m, .agg m'] H (.bool b)) ∧ ∀ (H : AHeap) (l off l' off' : Nat) (pre post pre' post' : List AV) (wr wr' : Bool), H.get l = some (.row (pre ++ (m ++ post)) wr) → pre.length = off → H.get l' = some (.row (pre' ++ (m' ++ post')) wr') → pre'.length = off' → APure Try.prog 102 [.ptr l off, .ptr l' off'] H (.bool b) := by
  obtain ⟨r, h1, _, h2, h3⟩ := pair_ptr2 (φ := φ0) 20 (sh := .k .bool) (f := 71) (g := 102) tb_ok ap_ok h.1 h.2 (by decide) (by kernel_rfl)
  obtain ⟨b, rfl⟩ := sh_bool h1
  exact ⟨b, h2, h3⟩
open Classical in
noncomputable def sameN (x y : Option Nat) : Bool := if h : fOk .f32 x ∧ fOk .f32 y then Classical.choose (e_sameNum x y h) else false
theorem k_SameNumber (x y : Option Nat) (hx : fOk .f32 x) (hy : fOk .f32 y) (H : AHeap) : APure Try.prog 58 [.flt .f32 x, .flt .f32 y] H (.bool (sameN x y)) := by
  unfold sameN; rw [dif_pos ⟨hx, hy⟩]; exact (Classical.choose_spec (e_sameNum x y ⟨hx, hy⟩) H).1
theorem k_l01Same (x y : Option Nat) (hx : fOk .f32 x) (hy : fOk .f32 y) (H : AHeap) : APure Try.prog 94 [.flt .f32 x, .flt .f32 y] H (.bool (sameN x y)) := by
  unfold sameN; rw [dif_pos ⟨hx, hy⟩]; exact (Classical.choose_spec (e_sameNum x y ⟨hx, hy⟩) H).2
open Classical in
noncomputable def sameM (m m' : List AV) : Bool := if h : KdsL KM m ∧ KdsL KM m' then Classical.choose (e_sameMark m m' h) else false
theorem k_sameMark (m m' : List AV) (h : KdsL KM m) (h' : KdsL KM m') (H : AHeap) : APure Try.prog 71 [.agg m, .agg m'] H (.bool (sameM m m')) := by
  unfold sameM; rw [dif_pos ⟨h, h'⟩]; exact (Classical.choose_spec (e_sameMark m m' ⟨h, h'⟩)).1 H
theorem k_l05SameMark (m m' : List AV) (h : KdsL KM m) (h' : KdsL KM m') {H : AHeap} {l off l' off' : Nat} {pre post pre' post' : List AV} {wr wr' : Bool} (hg : H.get l = some (.row (pre ++ (m ++ post)) wr)) (hp : pre.length = off) (hg' : H.get l' = some (.row (pre' ++ (m' ++ post')) wr')) (hp' : pre'.length = off') : APure Try.prog 102 [.ptr l off, .ptr l' off'] H (.bool (sameM m m')) := by
  unfold sameM; rw [dif_pos ⟨h, h'⟩]; exact (Classical.choose_spec (e_sameMark m m' ⟨h, h'⟩)).2 H l off l' off' pre post pre' post' wr wr' hg hp hg' hp'
noncomputable def sameL (ms ms' : List (List AV)) : Bool := decide (ms.length = ms'.length) && (List.range ms.length).all fun i => sameM (ms.getD i []) (ms'.getD i [])
theorem sameL_true {ms ms' : List (List AV)} (h : ms.length = ms'.length) (h2 : ∀ i, i < ms.length → sameM (ms.getD i []) (ms'.getD i []) = true) : sameL ms ms' = true := by
  simp only [sameL, decide_eq_true h, Bool.true_and, List.all_eq_true, List.mem_range]; exact h2
theorem sameL_at {ms ms' : List (List AV)} {i : Nat} (hi : i < ms.length) (h : sameM (ms.getD i []) (ms'.getD i []) = false) : sameL ms ms' = false := by
  cases hb : sameL ms ms' with
  | false => rfl
  | true =>
    simp only [sameL, Bool.and_eq_true, List.all_eq_true, List.mem_range] at hb
    rw [hb.2 i hi] at h; cases h
theorem k_EqualFuncM (H : AHeap) (ms ms' : List (List AV)) (hr : Recs KM ms) (hr' : Recs KM ms') (S S' : AV) (hS : SlL H 9 ms S) (hS' : SlL H 9 ms' S') (hmax : ms.length < 2 ^ 40) : APure Try.prog 70 [S, S', .func 71 [] []] H (.bool (sameL ms ms')) := by
  refine res_start h_slices_EqualFunc_impl_Mark_impl_Mark_impl_Mark_impl_Mark (by simp) ?_
  refine run_mn (φ := φ0) (pm := pmR 0 [(.len (.nd 0 .one), .nd 2 (.int .i64)), (.len (.nd 1 .one), .nd 3 (.int .i64))] 0) 20 (nk := [(.atom 0, .one), (.atom 1, .one), (.atom 2, .int .i64), (.atom 3, .int .i64)]) (fs := []) (xs := [S, S', .int .i64 (ms.length : Int), .int .i64 (ms'.length : Int)]) (ws := []) (env := [(0, .nd 0 .one), (1, .nd 1 .one), (2, .fn 71 [] [])]) ?_ ?_ tb_ok ap_ok ?_
  · refine midN_in ?_ .nil _ .nil trivial ?_
    · exact .cons rfl (slOne hS) (.cons rfl (slOne hS') (.cons rfl ⟨_, rfl⟩ (.cons rfl ⟨_, rfl⟩ .nil)))
    · exact .cons ⟨_, _, dNd rfl (slOne hS), dNd rfl ⟨_, rfl⟩, slLen hS⟩ (.cons ⟨_, _, dNd rfl (slOne hS'), dNd rfl ⟨_, rfl⟩, slLen hS'⟩ .nil)
  · exact envNd rfl rfl (slOne hS) (envNd rfl rfl (slOne hS') (envFn rfl envNil))
  refine all2 (by kernel_rfl) ?_ ?_
  · intro vs ls H1 E1 st hE
    have f0 : decide ((ms.length : Int) = (ms'.length : Int)) = false := bfact st.inn 0 (by kernel_rfl)
    refine res_ex (by kernel_rfl) (end_flat st.inn hE (.inr rfl) (a := .bool false) (by kernel_rfl) (st.kept.grew (Nat.le_of_ble_eq_true (by kernel_rfl))) rfl ⟨?_, rfl⟩)
    have : ¬ ms.length = ms'.length := by have := of_decide_eq_false f0; omega
    simp [sameL, this]
  intro vs ls H1 E1 st hE
  have f0 : decide ((ms.length : Int) = (ms'.length : Int)) = true := bfact st.inn 0 (by kernel_rfl)
  have hlen : ms.length = ms'.length := by have := of_decide_eq_true f0; omega
  have a1 : E1 1 = S' := env_of st.inn hE 1 (by kernel_rfl)
  have a2 : E1 2 = .func 71 [] [] := env_of st.inn hE 2 (by kernel_rfl)
  have a15 : E1 15 = S := env_of st.inn hE 15 (by kernel_rfl)
  have a16 : E1 16 = .int .i64 (ms.length : Int) := env_of st.inn hE 16 (by kernel_rfl)
  have a17 : E1 17 = .int .i64 ((0 : Nat) : Int) := env_of st.inn hE 17 (by kernel_rfl)
  have g1 : Grew H H1 := (st.kept.grew (Nat.le_of_ble_eq_true (by kernel_rfl)))
  clear st hE vs ls
  refine res_scan (by kernel_rfl) [(1, S'), (2, .func 71 [] []), (15, S), (16, .int .i64 (ms.length : Int))] 17 ms.length (fun i => ∀ j, j < i → sameM (ms.getD j []) (ms'.getD j []) = true) (.cons a1 (.cons a2 (.cons a15 (.cons a16 .nil)))) a17 g1 (fun j hj => by omega) ?_
  intro i hi hI E2 H2 hs h17 hg2
  have b1 := hs.head
  have b2 := hs.tail.head
  have b15 := hs.tail.tail.head
  have b16 := hs.tail.tail.tail.head
  have hso := slOne hS
  rcases Nat.lt_or_ge i ms.length with hlt | hge
  · have hlt' : i < ms'.length := by omega
    cases hS with
    | nil h => rw [h] at hlt; simp at hlt
    | @sl ls0 n cap rest wr2 hgS hn hc =>
      cases hS' with
      | nil h => rw [h] at hlt'; simp at hlt'
      | @sl ls1 n' cap' rest' wr2' hgS' hn' hc' =>
        have hgS2 := hg2.at hgS
        have hgS2' := hg2.at hgS'
        subst hn
        subst hn'
        have hD : ms.getD i [] = ms[i] := by simp [List.getD_eq_getElem?_getD, hlt]
        have hD' : ms'.getD i [] = ms'[i] := by simp [List.getD_eq_getElem?_getD, hlt']
        have hkm := hr.get hlt
        have hkm' := hr'.get hlt'
        obtain ⟨v0, v1, v2, v3, v4, v5, v6, v7, v8, hm, o3, o4, o5, o6⟩ := partsMark hkm
        obtain ⟨w0, w1, w2, w3, w4, w5, w6, w7, w8, hm', p3, p4, p5, p6⟩ := partsMark hkm'
        refine run_mn (φ := φ0) (pm := pmR 2 [(.ia 9 (.nd 0 .one) (.nd 2 (.int .i64)), .ptr 0 0), (.ia 9 (.nd 3 .one) (.nd 2 (.int .i64)), .ptr 1 0), (.call 71 [.agg (nds 4 KM), .agg (nds 13 KM)], .nd 22 .bool)] 0) 20
          (nk := [(.atom 0, .one), (.atom 1, .int .i64), (.atom 2, .int .i64), (.atom 3, .one)] ++ ([(.atom 4, .int .i32), (.atom 5, .int .i32), (.atom 6, .int .i32), (.atom 7, .flt .f32), (.atom 8, .flt .f32), (.atom 9, .flt .f32), (.atom 10, .flt .f32), (.atom 11, .int .i64), (.atom 12, .int .i64)] ++ ([(.atom 13, .int .i32), (.atom 14, .int .i32), (.atom 15, .int .i32), (.atom 16, .flt .f32), (.atom 17, .flt .f32), (.atom 18, .flt .f32), (.atom 19, .flt .f32), (.atom 20, .int .i64), (.atom 21, .int .i64)] ++ [(.atom 22, .bool), (.bin .lss (.nd 2 (.int .i64)) (.nd 1 (.int .i64)), .bool)]))) (fs := [(23, true)])
          (xs := [.slice ls0 0 ms.length cap 9, .int .i64 (ms.length : Int), .int .i64 (i : Int), .slice ls1 0 ms'.length cap' 9, .int .i32 v0, .int .i32 v1, .int .i32 v2, .flt .f32 v3, .flt .f32 v4, .flt .f32 v5, .flt .f32 v6, .int .i64 v7, .int .i64 v8, .int .i32 w0, .int .i32 w1, .int .i32 w2, .flt .f32 w3, .flt .f32 w4, .flt .f32 w5, .flt .f32 w6, .int .i64 w7, .int .i64 w8, .bool (sameM ms[i] ms'[i]), .bool true])
          (ws := [⟨ls0, i * 9, nds 4 KM, false⟩, ⟨ls1, i * 9, nds 13 KM, false⟩]) (env := [(1, .nd 3 .one), (2, .fn 71 [] []), (15, .nd 0 .one), (16, .nd 1 (.int .i64)), (17, .nd 2 (.int .i64))]) ?_ ?_ tb_ok ap_ok ?_
        · refine midN_in ?_ ?_ _ ?_ ?_ ?_
          · refine .cons rfl rfl (.cons rfl ⟨_, rfl⟩ (.cons rfl ⟨_, rfl⟩ (.cons rfl rfl ?_)))
            (repeat (first | exact .nil | refine .cons rfl ⟨_, rfl⟩ ?_ | refine .cons rfl ⟨_, rfl, by assumption⟩ ?_ | refine .cons rfl (by assumption) ?_))
            refine .cons ⟨_, _, dNd rfl ⟨_, rfl⟩, dNd rfl ⟨_, rfl⟩, ?_⟩ ⟨_, rfl⟩ .nil
            show some (AV.bool (decide ((i : Int) < (ms.length : Int)))) = _
            rw [decide_eq_true (by omega)]
          · exact .cons rfl .nil
          · exact .cons (win_elem hr hgS2 hlt rfl (by rw [hm]; exact (by repeat (first | exact dlNil | refine dlCons (dNd rfl ⟨_, rfl⟩) ?_ | refine dlCons (dNd rfl ⟨_, rfl, by assumption⟩) ?_ | refine dlCons (dNd rfl (by assumption)) ?_)))) (.cons (win_elem hr' hgS2' hlt' rfl (by rw [hm']; exact (by repeat (first | exact dlNil | refine dlCons (dNd rfl ⟨_, rfl⟩) ?_ | refine dlCons (dNd rfl ⟨_, rfl, by assumption⟩) ?_ | refine dlCons (dNd rfl (by assumption)) ?_)))) .nil)
          · exact ⟨fun v hv h => (by simp at hv; subst hv; simp at h), ⟨fun v hv => (by cases hv), trivial⟩⟩
          · exact .cons (rule_ia (k := i) (dNd rfl rfl) (dNd rfl ⟨_, rfl⟩) (by omega) rfl) (.cons (rule_ia (k := i) (dNd rfl rfl) (dNd rfl ⟨_, rfl⟩) (by omega) rfl)
              (.cons (rule_call (args := [.agg ms[i], .agg ms'[i]]) (dlCons (dAgg (by rw [hm]; exact (by repeat (first | exact dlNil | refine dlCons (dNd rfl ⟨_, rfl⟩) ?_ | refine dlCons (dNd rfl ⟨_, rfl, by assumption⟩) ?_ | refine dlCons (dNd rfl (by assumption)) ?_)))) (dlCons (dAgg (by rw [hm']; exact (by repeat (first | exact dlNil | refine dlCons (dNd rfl ⟨_, rfl⟩) ?_ | refine dlCons (dNd rfl ⟨_, rfl, by assumption⟩) ?_ | refine dlCons (dNd rfl (by assumption)) ?_)))) dlNil)) (dNd rfl ⟨_, rfl⟩) (fun H3 _ => k_sameMark ms[i] ms'[i] hkm hkm' H3)) .nil))
        · exact envNd b1 rfl rfl (envFn b2 (envNd b15 rfl rfl (envNd b16 rfl ⟨_, rfl⟩ (envNd h17 rfl ⟨_, rfl⟩ envNil))))
        · refine all2 (by kernel_rfl) ?_ ?_
          · intro vs ls H4 E4 st hE
            have f1 : sameM ms[i] ms'[i] = false := bfact st.inn 0 (by kernel_rfl)
            refine res_ret (by kernel_rfl) (end_flat st.inn hE (.inr rfl) (a := .bool false) (by kernel_rfl) (hg2.trans (st.kept.grew (Nat.le_of_ble_eq_true (by kernel_rfl)))) rfl ⟨?_, rfl⟩)
            rw [sameL_at hlt (by rw [hD, hD', f1])]
          · intro vs ls H4 E4 st hE
            have f1 : sameM ms[i] ms'[i] = true := bfact st.inn 0 (by kernel_rfl)
            refine res_next (sl := [(1, .slice ls1 0 ms'.length cap' 9), (2, .func 71 [] []), (15, .slice ls0 0 ms.length cap 9), (16, .int .i64 (ms.length : Int))]) (ti := 17) (i := i) (Inv := fun i => ∀ j, j < i → sameM (ms.getD j []) (ms'.getD j []) = true) (by kernel_rfl) st.inn hE hlt (by kernel_rfl) (w := IntKind.i64.wrap ((i : Int) + 1)) (by kernel_rfl) (wrap64 (by omega)) (hg2.trans (st.kept.grew (Nat.le_of_ble_eq_true (by kernel_rfl)))) ?_
            intro j hj
            rcases Nat.lt_or_ge j i with h | h
            · exact hI j h
            · obtain rfl : j = i := by omega
              rw [hD, hD', f1]
  · obtain rfl : i = ms.length := by omega
    refine run_mn (φ := φ0) (pm := pmR 0 [] 0) 20 (nk := [(.atom 0, .int .i64), (.atom 1, .int .i64), (.bin .lss (.nd 1 (.int .i64)) (.nd 0 (.int .i64)), .bool)]) (fs := [(2, false)])
      (xs := [.int .i64 (ms.length : Int), .int .i64 (ms.length : Int), .bool false]) (ws := []) (env := [(16, .nd 0 (.int .i64)), (17, .nd 1 (.int .i64))]) ?_ ?_ tb_ok ap_ok ?_
    · refine midN_in ?_ ?_ _ .nil trivial .nil
      · refine .cons rfl ⟨_, rfl⟩ (.cons rfl ⟨_, rfl⟩ (.cons ⟨_, _, dNd rfl ⟨_, rfl⟩, dNd rfl ⟨_, rfl⟩, ?_⟩ ⟨_, rfl⟩ .nil))
        show some (AV.bool (decide ((ms.length : Int) < (ms.length : Int)))) = _
        rw [decide_eq_false (by omega)]
      · exact .cons rfl .nil
    · exact envNd b16 rfl ⟨_, rfl⟩ (envNd h17 rfl ⟨_, rfl⟩ envNil)
    · refine all1 (by kernel_rfl) ?_
      intro vs ls H4 E4 st hE
      have g5 : Grew H2 H4 := (st.kept.grew (Nat.le_of_ble_eq_true (by kernel_rfl)))
      clear st hE vs ls
      refine res_exit (id := 0) (by kernel_rfl) ?_
      refine run_mn (φ := φ0) (pm := pmR 0 [] 0) 20 (nk := []) (fs := []) (xs := []) (ws := []) (env := []) (midN_in .nil .nil _ .nil trivial .nil) envNil tb_ok ap_ok ?_
      refine all1 (by kernel_rfl) ?_
      intro vs ls H5 E5 st hE
      refine res_ex (by kernel_rfl) (end_flat st.inn hE (.inr rfl) (a := .bool true) (by kernel_rfl) ((hg2.trans g5).trans (st.kept.grew (Nat.le_of_ble_eq_true (by kernel_rfl)))) rfl ⟨?_, rfl⟩)
      rw [sameL_true hlen hI]
end Go.Proofs.Ytgjhjemmddojfaa
