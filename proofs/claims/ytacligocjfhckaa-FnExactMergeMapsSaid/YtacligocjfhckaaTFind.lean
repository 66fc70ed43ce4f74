/- Contracts: where the mark of a cell stands. -/
import Derived.Test.YtacligocjfhckaaTMap
import Derived.Test.YtacligocjfhckaaSxC
set_option linter.unusedVariables false
set_option linter.unusedSimpArgs false
namespace Go.Proofs.Ytacligocjfhckaa
open Go.Ab
set_option maxRecDepth 100000
attribute [local irreducible] Res
def plc (a b c : Int) : List AV := [.int .i32 a, .int .i32 b, .int .i32 c]
/-- How many marks stand before a cell, from the first on. -/
def lin (ms : List (List AV)) (a b c : Int) : Nat := (ms.takeWhile fun m => decide (cmpM m (plc a b c) < 0)).length
def fnd (ms : List (List AV)) (a b c : Int) : Bool := decide (lin ms a b c < ms.length) && decide (cmpM (ms.getD (lin ms a b c) []) (plc a b c) = 0)
theorem lin_is {a b c : Int} : ∀ {ms : List (List AV)} {i : Nat}, i ≤ ms.length → (∀ j, j < i → cmpM (ms.getD j []) (plc a b c) < 0) → (i < ms.length → ¬ cmpM (ms.getD i []) (plc a b c) < 0) → lin ms a b c = i
 | [], i, h, _, _ => by simp at h; subst h; rfl
 | m :: ms, 0, _, _, h => by
  have := h (by simp)
  simp only [List.getD_cons_zero] at this
  simp [lin, List.takeWhile_cons, this]
 | m :: ms, i + 1, h, h1, h2 => by
  have e0 := h1 0 (by omega)
  simp only [List.getD_cons_zero] at e0
  have := lin_is (ms := ms) (i := i) (by simpa using h) (fun j hj => by have := h1 (j + 1) (by omega); simpa using this) (fun hi => by have := h2 (by simpa using hi); simpa using this)
  simp only [lin, List.takeWhile_cons, e0, decide_true, if_true, List.length_cons]
  exact congrArg (· + 1) this
theorem cmp3_zero {a b c a' b' c' : Int} : cmp3 a b c a' b' c' = 0 ↔ a = a' ∧ b = b' ∧ c = c' := by
 simp only [cmp3, cmpI]
 (repeat' split) <;> omega
theorem k_l05Find (H : AHeap) (ms : List (List AV)) (hr : Recs KM ms) (S : AV) (hS : SlL H 9 ms S) (a b c : Int) (hmax : ms.length < 2 ^ 40) : APure Try.prog 53 [S, .agg (plc a b c)] H (.tuple [.int .i64 (lin ms a b c : Int), .bool (fnd ms a b c)]) := by
 refine res_start h_spec_l05Find (by simp) ?_
 refine run_mn (φ := φ0) (pm := pmR 0 [] 0) 20 (nk := [(.atom 0, .one), (.atom 1, .int .i32), (.atom 2, .int .i32), (.atom 3, .int .i32)]) (fs := []) (xs := [S, .int .i32 a, .int .i32 b, .int .i32 c]) (ws := []) (env := [(0, .nd 0 .one), (1, .agg (nds 1 K3))]) ?_ ?_ tb_ok ap_ok ?_
 ·
  exact midN_in (by exact .cons rfl (slOne hS) (.cons rfl ⟨_, rfl⟩ (.cons rfl ⟨_, rfl⟩ (.cons rfl ⟨_, rfl⟩ .nil)))) .nil _ .nil trivial .nil
 ·
  exact envNd rfl rfl (slOne hS) (envCons (show D _ _ _ (.agg (plc a b c)) from dAgg (by repeat (first | exact dlNil | refine dlCons (dNd rfl ⟨_, rfl⟩) ?_ | refine dlCons (dNd rfl ⟨_, rfl, by assumption⟩) ?_ | refine dlCons (dNd rfl (by assumption)) ?_))) envNil)
 refine all1 (by kernel_rfl) ?_
 intro vs ls H1 E1 st hE
 have a0 : E1 0 = S := env_of st.inn hE 0 (by kernel_rfl)
 have a6 : E1 6 = .int .i64 ((0 : Nat) : Int) := env_of st.inn hE 6 (by kernel_rfl)
 obtain ⟨p, a3, r3, _⟩ := ptr_of st.inn hE 3 0 (by kernel_rfl) (ds := [.int .i32 a, .int .i32 b, .int .i32 c]) (by kernel_rfl)
 have g1 : Grew H H1 := (gk st)
 clear st hE vs ls
 refine res_scan (by kernel_rfl) [(0, S), (3, .ptr p 0)] 6 ms.length (fun i => ∀ j, j < i → cmpM (ms.getD j []) (plc a b c) < 0) (.cons a0 (.cons a3 .nil)) a6 (Grew.refl H1) (fun j hj => by omega) ?_
 intro i hi hI E2 H2 hs h6 hg2
 have b0 := hs.head
 have b3 := hs.tail.head
 have hso := slOne hS
 have r3' := hg2.at r3
 have gH2 := g1.trans hg2
 rcases Nat.lt_or_ge i ms.length with hlt | hge
 ·
  cases hS with
  | nil h => rw [h] at hlt; simp at hlt
  | @sl ls0 n cap rest wr2 hgS hn hc =>
   have hgS2 := gH2.at hgS
   subst hn
   have hD : ms.getD i [] = ms[i] := by simp [List.getD_eq_getElem?_getD, hlt]
   obtain ⟨v0, v1, v2, v3, v4, v5, v6, v7, v8, hm, o3, o4, o5, o6⟩ := partsMark (hr.get hlt)
   have hcm : cmpM ms[i] (plc a b c) = cmp3 v0 v1 v2 a b c := by rw [hm]; rfl
   refine run_mn (φ := φ0) (pm := pmR 2 [(.len (.nd 0 .one), .nd 1 (.int .i64)), (.ia 9 (.nd 0 .one) (.nd 2 (.int .i64)), .ptr 0 0), (.call 48 [.agg (nds 6 K3), .agg (nds 3 K3)], .nd 15 (.int .i64))] 0) 20
    (nk := [(.atom 0, .one), (.atom 1, .int .i64), (.atom 2, .int .i64), (.atom 3, .int .i32), (.atom 4, .int .i32), (.atom 5, .int .i32)] ++ ([(.atom 6, .int .i32), (.atom 7, .int .i32), (.atom 8, .int .i32), (.atom 9, .flt .f32), (.atom 10, .flt .f32), (.atom 11, .flt .f32), (.atom 12, .flt .f32), (.atom 13, .int .i64), (.atom 14, .int .i64)] ++ [(.atom 15, .int .i64), (.bin .lss (.nd 2 (.int .i64)) (.nd 1 (.int .i64)), .bool)])) (fs := [(16, true)])
    (xs := [.slice ls0 0 ms.length cap 9, .int .i64 (ms.length : Int), .int .i64 (i : Int), .int .i32 a, .int .i32 b, .int .i32 c, .int .i32 v0, .int .i32 v1, .int .i32 v2, .flt .f32 v3, .flt .f32 v4, .flt .f32 v5, .flt .f32 v6, .int .i64 v7, .int .i64 v8, .int .i64 (cmp3 v0 v1 v2 a b c), .bool true])
    (ws := [⟨ls0, i * 9, nds 6 KM, false⟩, ⟨p, 0, nds 3 K3, false⟩]) (env := [(0, .nd 0 .one), (3, .ptr 1 0), (6, .nd 2 (.int .i64))]) ?_ ?_ tb_ok ap_ok ?_
   ·
    refine midN_in ?_ ?_ _ ?_ ?_ ?_
    ·
     refine .cons rfl rfl (.cons rfl ⟨_, rfl⟩ ?_)
     (repeat (first | exact .nil | refine .cons rfl ⟨_, rfl⟩ ?_ | refine .cons rfl ⟨_, rfl, by assumption⟩ ?_ | refine .cons rfl (by assumption) ?_))
     refine .cons ⟨_, _, dNd rfl ⟨_, rfl⟩, dNd rfl ⟨_, rfl⟩, ?_⟩ ⟨_, rfl⟩ .nil
     show some (AV.bool (decide ((i : Int) < (ms.length : Int)))) = _
     rw [decide_eq_true (by omega)]
    ·
     exact .cons rfl .nil
    ·
     exact .cons (win_elem hr hgS2 hlt rfl (by rw [hm]; exact (by repeat (first | exact dlNil | refine dlCons (dNd rfl ⟨_, rfl⟩) ?_ | refine dlCons (dNd rfl ⟨_, rfl, by assumption⟩) ?_ | refine dlCons (dNd rfl (by assumption)) ?_)))) (.cons (win_row r3' (by repeat (first | exact dlNil | refine dlCons (dNd rfl ⟨_, rfl⟩) ?_ | refine dlCons (dNd rfl ⟨_, rfl, by assumption⟩) ?_ | refine dlCons (dNd rfl (by assumption)) ?_))) .nil)
    ·
     exact ⟨fun v hv h => (by simp at hv; subst hv; simp at h), ⟨fun v hv => (by cases hv), trivial⟩⟩
    ·
     exact .cons (rule_len (o := 0) (dNd rfl rfl) (dNd rfl ⟨_, rfl⟩)) (.cons (rule_ia (k := i) (dNd rfl rfl) (dNd rfl ⟨_, rfl⟩) (by omega) rfl) (.cons (rule_call (args := [.agg (plc v0 v1 v2), .agg (plc a b c)]) (dlCons (dAgg (by repeat (first | exact dlNil | refine dlCons (dNd rfl ⟨_, rfl⟩) ?_ | refine dlCons (dNd rfl ⟨_, rfl, by assumption⟩) ?_ | refine dlCons (dNd rfl (by assumption)) ?_))) (dlCons (dAgg (by repeat (first | exact dlNil | refine dlCons (dNd rfl ⟨_, rfl⟩) ?_ | refine dlCons (dNd rfl ⟨_, rfl, by assumption⟩) ?_ | refine dlCons (dNd rfl (by assumption)) ?_))) dlNil)) (dNd rfl ⟨_, rfl⟩) (fun H3 _ => k_l05Compare H3 v0 v1 v2 a b c)) .nil))
   ·
    exact envNd b0 rfl rfl (envPtr (l := p) (o := 0) b3 rfl rfl (envNd h6 rfl ⟨_, rfl⟩ envNil))
   ·
    refine all2 (by kernel_rfl) ?_ ?_
    ·
     intro vs ls H4 E4 st hE
     have f1 : decide (cmp3 v0 v1 v2 a b c < 0) = true := bf st 0
     refine res_next (sl := [(0, .slice ls0 0 ms.length cap 9), (3, .ptr p 0)]) (ti := 6) (i := i) (Inv := fun i => ∀ j, j < i → cmpM (ms.getD j []) (plc a b c) < 0) (by kernel_rfl) st.inn hE hlt (by kernel_rfl) (w := IntKind.i64.wrap ((i : Int) + 1)) (by kernel_rfl) (wrap64 (by omega)) (hg2.trans (gk st)) ?_
     intro j hj
     rcases Nat.lt_or_ge j i with h | h
     ·
      exact hI j h
     ·
      obtain rfl : j = i := by omega
      rw [hD, hcm]; exact of_decide_eq_true f1
    ·
     intro vs ls H4 E4 st hE
     have f1 : decide (cmp3 v0 v1 v2 a b c < 0) = false := bf st 0
     have hlin : lin ms a b c = i := lin_is hi hI (fun _ => by rw [hD, hcm]; exact of_decide_eq_false f1)
     have d0 : E4 0 = .slice ls0 0 ms.length cap 9 := env_of st.inn hE 0 (by kernel_rfl)
     have d3 : E4 3 = .ptr p 0 := env_of st.inn hE 3 (by kernel_rfl)
     have d6 : E4 6 = .int .i64 (i : Int) := env_of st.inn hE 6 (by kernel_rfl)
     have g4 : Grew H2 H4 := (gk st)
     clear st hE vs ls
     refine res_exit (id := 0) (by kernel_rfl) ?_
     refine run_mn (φ := φ0) (pm := pmR 2 [(.len (.nd 0 .one), .nd 1 (.int .i64)), (.ia 9 (.nd 0 .one) (.nd 2 (.int .i64)), .ptr 0 0)] 0) 20
      (nk := [(.atom 0, .one), (.atom 1, .int .i64), (.atom 2, .int .i64), (.atom 3, .int .i32), (.atom 4, .int .i32), (.atom 5, .int .i32)] ++ ([(.atom 6, .int .i32), (.atom 7, .int .i32), (.atom 8, .int .i32), (.atom 9, .flt .f32), (.atom 10, .flt .f32), (.atom 11, .flt .f32), (.atom 12, .flt .f32), (.atom 13, .int .i64), (.atom 14, .int .i64)] ++ [(.bin .lss (.nd 2 (.int .i64)) (.nd 1 (.int .i64)), .bool)])) (fs := [(15, true)])
      (xs := [.slice ls0 0 ms.length cap 9, .int .i64 (ms.length : Int), .int .i64 (i : Int), .int .i32 a, .int .i32 b, .int .i32 c, .int .i32 v0, .int .i32 v1, .int .i32 v2, .flt .f32 v3, .flt .f32 v4, .flt .f32 v5, .flt .f32 v6, .int .i64 v7, .int .i64 v8, .bool true])
      (ws := [⟨ls0, i * 9, nds 6 KM, false⟩, ⟨p, 0, nds 3 K3, false⟩]) (env := [(0, .nd 0 .one), (3, .ptr 1 0), (6, .nd 2 (.int .i64))]) ?_ ?_ tb_ok ap_ok ?_
     ·
      refine midN_in ?_ ?_ _ ?_ ?_ ?_
      ·
       refine .cons rfl rfl (.cons rfl ⟨_, rfl⟩ ?_)
       (repeat (first | exact .nil | refine .cons rfl ⟨_, rfl⟩ ?_ | refine .cons rfl ⟨_, rfl, by assumption⟩ ?_ | refine .cons rfl (by assumption) ?_))
       refine .cons ⟨_, _, dNd rfl ⟨_, rfl⟩, dNd rfl ⟨_, rfl⟩, ?_⟩ ⟨_, rfl⟩ .nil
       show some (AV.bool (decide ((i : Int) < (ms.length : Int)))) = _
       rw [decide_eq_true (by omega)]
      ·
       exact .cons rfl .nil
      ·
       exact .cons (win_elem hr (g4.at hgS2) hlt rfl (by rw [hm]; exact (by repeat (first | exact dlNil | refine dlCons (dNd rfl ⟨_, rfl⟩) ?_ | refine dlCons (dNd rfl ⟨_, rfl, by assumption⟩) ?_ | refine dlCons (dNd rfl (by assumption)) ?_)))) (.cons (win_row (g4.at r3') (by repeat (first | exact dlNil | refine dlCons (dNd rfl ⟨_, rfl⟩) ?_ | refine dlCons (dNd rfl ⟨_, rfl, by assumption⟩) ?_ | refine dlCons (dNd rfl (by assumption)) ?_))) .nil)
      ·
       exact ⟨fun v hv h => (by simp at hv; subst hv; simp at h), ⟨fun v hv => (by cases hv), trivial⟩⟩
      ·
       exact .cons (rule_len (o := 0) (dNd rfl rfl) (dNd rfl ⟨_, rfl⟩)) (.cons (rule_ia (k := i) (dNd rfl rfl) (dNd rfl ⟨_, rfl⟩) (by omega) rfl) .nil)
     ·
      exact envNd d0 rfl rfl (envPtr (l := p) (o := 0) d3 rfl rfl (envNd d6 rfl ⟨_, rfl⟩ envNil))
     ·
      have hf : fnd ms a b c = decide (v0 = a ∧ v1 = b ∧ v2 = c) := by
       simp only [fnd, hlin, hD, hcm, decide_eq_true hlt, Bool.true_and, cmp3_zero]
      have gH4 := gH2.trans g4
      rw [hlin, hf]
      refine all4 (by kernel_rfl) ?_ ?_ ?_ ?_
      ·
       intro vs ls H5 E5 st hE
       have f1 : decide (v2 = c) = true := bf st 0
       have f2 : decide (v1 = b) = true := bf st 1
       have f3 : decide (v0 = a) = true := bf st 2
       refine res_ex (by kernel_rfl) (end_flat st.inn hE (.inr rfl) (a := .tuple [.int .i64 (i : Int), .bool true]) (by kernel_rfl) (gH4.trans (gk st)) rfl ⟨?_, rfl⟩)
       have f1 := of_decide_eq_true f1
       have f2 := of_decide_eq_true f2
       have f3 := of_decide_eq_true f3
       simp [f1, f2, f3]
      ·
       intro vs ls H5 E5 st hE
       have f1 : decide (v2 = c) = false := bf st 0
       refine res_ex (by kernel_rfl) (end_flat st.inn hE (.inr rfl) (a := .tuple [.int .i64 (i : Int), .bool false]) (by kernel_rfl) (gH4.trans (gk st)) rfl ⟨?_, rfl⟩)
       have f1 := of_decide_eq_false f1
       simp [f1]
      ·
       intro vs ls H5 E5 st hE
       have f1 : decide (v1 = b) = false := bf st 0
       refine res_ex (by kernel_rfl) (end_flat st.inn hE (.inr rfl) (a := .tuple [.int .i64 (i : Int), .bool false]) (by kernel_rfl) (gH4.trans (gk st)) rfl ⟨?_, rfl⟩)
       have f1 := of_decide_eq_false f1
       simp [f1]
      ·
       intro vs ls H5 E5 st hE
       have f1 : decide (v0 = a) = false := bf st 0
       refine res_ex (by kernel_rfl) (end_flat st.inn hE (.inr rfl) (a := .tuple [.int .i64 (i : Int), .bool false]) (by kernel_rfl) (gH4.trans (gk st)) rfl ⟨?_, rfl⟩)
       have f1 := of_decide_eq_false f1
       simp [f1]
 ·
  obtain rfl : i = ms.length := by omega
  have hlin : lin ms a b c = ms.length := lin_is (Nat.le_refl _) hI (fun h => absurd h (by omega))
  have hf : fnd ms a b c = false := by simp [fnd, hlin]
  rw [hlin, hf]
  refine run_mn (φ := φ0) (pm := pmR 1 [(.len (.nd 0 .one), .nd 1 (.int .i64))] 0) 20 (nk := [(.atom 0, .one), (.atom 1, .int .i64), (.atom 2, .int .i64), (.atom 3, .int .i32), (.atom 4, .int .i32), (.atom 5, .int .i32), (.bin .lss (.nd 2 (.int .i64)) (.nd 1 (.int .i64)), .bool)]) (fs := [(6, false)])
   (xs := [S, .int .i64 (ms.length : Int), .int .i64 (ms.length : Int), .int .i32 a, .int .i32 b, .int .i32 c, .bool false]) (ws := [⟨p, 0, nds 3 K3, false⟩]) (env := [(0, .nd 0 .one), (3, .ptr 0 0), (6, .nd 2 (.int .i64))]) ?_ ?_ tb_ok ap_ok ?_
  ·
   refine midN_in ?_ ?_ _ ?_ ?_ ?_
   ·
    refine .cons rfl hso (.cons rfl ⟨_, rfl⟩ (.cons rfl ⟨_, rfl⟩ (.cons rfl ⟨_, rfl⟩ (.cons rfl ⟨_, rfl⟩ (.cons rfl ⟨_, rfl⟩ (.cons ⟨_, _, dNd rfl ⟨_, rfl⟩, dNd rfl ⟨_, rfl⟩, ?_⟩ ⟨_, rfl⟩ .nil))))))
    show some (AV.bool (decide ((ms.length : Int) < (ms.length : Int)))) = _
    rw [decide_eq_false (by omega)]
   ·
    exact .cons rfl .nil
   ·
    exact .cons (win_row r3' (by repeat (first | exact dlNil | refine dlCons (dNd rfl ⟨_, rfl⟩) ?_ | refine dlCons (dNd rfl ⟨_, rfl, by assumption⟩) ?_ | refine dlCons (dNd rfl (by assumption)) ?_))) .nil
   ·
    exact ⟨fun v hv => (by cases hv), trivial⟩
   ·
    exact .cons ⟨_, _, dNd rfl hso, dNd rfl ⟨_, rfl⟩, slLen hS⟩ .nil
  ·
   exact envNd b0 rfl hso (envPtr (l := p) (o := 0) b3 rfl rfl (envNd h6 rfl ⟨_, rfl⟩ envNil))
  ·
   refine all1 (by kernel_rfl) ?_
   intro vs ls H4 E4 st hE
   have d0 : E4 0 = S := env_of st.inn hE 0 (by kernel_rfl)
   have d3 : E4 3 = .ptr p 0 := env_of st.inn hE 3 (by kernel_rfl)
   have d6 : E4 6 = .int .i64 (ms.length : Int) := env_of st.inn hE 6 (by kernel_rfl)
   have g4 : Grew H2 H4 := (gk st)
   clear st hE vs ls
   refine res_exit (id := 0) (by kernel_rfl) ?_
   refine run_mn (φ := φ0) (pm := pmR 1 [(.len (.nd 0 .one), .nd 1 (.int .i64))] 0) 20 (nk := [(.atom 0, .one), (.atom 1, .int .i64), (.atom 2, .int .i64), (.atom 3, .int .i32), (.atom 4, .int .i32), (.atom 5, .int .i32), (.bin .lss (.nd 2 (.int .i64)) (.nd 1 (.int .i64)), .bool)]) (fs := [(6, false)])
    (xs := [S, .int .i64 (ms.length : Int), .int .i64 (ms.length : Int), .int .i32 a, .int .i32 b, .int .i32 c, .bool false]) (ws := [⟨p, 0, nds 3 K3, false⟩]) (env := [(0, .nd 0 .one), (3, .ptr 0 0), (6, .nd 2 (.int .i64))]) ?_ ?_ tb_ok ap_ok ?_
   ·
    refine midN_in ?_ ?_ _ ?_ ?_ ?_
    ·
     refine .cons rfl hso (.cons rfl ⟨_, rfl⟩ (.cons rfl ⟨_, rfl⟩ (.cons rfl ⟨_, rfl⟩ (.cons rfl ⟨_, rfl⟩ (.cons rfl ⟨_, rfl⟩ (.cons ⟨_, _, dNd rfl ⟨_, rfl⟩, dNd rfl ⟨_, rfl⟩, ?_⟩ ⟨_, rfl⟩ .nil))))))
     show some (AV.bool (decide ((ms.length : Int) < (ms.length : Int)))) = _
     rw [decide_eq_false (by omega)]
    ·
     exact .cons rfl .nil
    ·
     exact .cons (win_row (g4.at r3') (by repeat (first | exact dlNil | refine dlCons (dNd rfl ⟨_, rfl⟩) ?_ | refine dlCons (dNd rfl ⟨_, rfl, by assumption⟩) ?_ | refine dlCons (dNd rfl (by assumption)) ?_))) .nil
    ·
     exact ⟨fun v hv => (by cases hv), trivial⟩
    ·
     exact .cons ⟨_, _, dNd rfl hso, dNd rfl ⟨_, rfl⟩, slLen hS⟩ .nil
   ·
    exact envNd d0 rfl hso (envPtr (l := p) (o := 0) d3 rfl rfl (envNd d6 rfl ⟨_, rfl⟩ envNil))
   ·
    refine all1 (by kernel_rfl) ?_
    intro vs ls H5 E5 st hE
    exact res_ex (by kernel_rfl) (end_flat st.inn hE (.inr rfl) (a := .tuple [.int .i64 (ms.length : Int), .bool false]) (by kernel_rfl) ((gH2.trans g4).trans (gk st)) rfl ⟨rfl, rfl⟩)
end Go.Proofs.Ytacligocjfhckaa
