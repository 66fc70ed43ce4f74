/- Contracts: a search by halving. -/
import Derived.Test.YtacligocjfhckaaTBin
set_option linter.unusedVariables false
set_option linter.unusedSimpArgs false
namespace Go.Proofs.Ytacligocjfhckaa
open Go.Ab
set_option maxRecDepth 100000
attribute [local irreducible] Res
theorem wrap_u64s {n : Int} (h1 : 0 ≤ n) (h2 : n < 18446744073709551616) : IntKind.u64.wrap n = n := by
 simp only [IntKind.wrap, IntKind.bits, IntKind.signed]; simp; omega
theorem k_Binary (H : AHeap) (ms : List (List AV)) (hr : Recs KM ms) (hsort : SortM ms) (S : AV) (hS : SlL H 9 ms S) (a b c : Int) (hmax : ms.length < 2 ^ 40) : APure Try.prog 76 [S, .agg (plc a b c), .func 77 [] []] H (.tuple [.int .i64 (lin ms a b c : Int), .bool (fnd ms a b c)]) := by
 refine res_start h_slices_BinarySearchFunc_impl_Mark_impl_Mark_impl_Place (by simp) ?_
 refine run_mn (φ := φ0) (pm := pmR 0 [(.len (.nd 0 .one), .nd 4 (.int .i64))] 0) 20 (nk := [(.atom 0, .one), (.atom 1, .int .i32), (.atom 2, .int .i32), (.atom 3, .int .i32), (.atom 4, .int .i64)]) (fs := []) (xs := [S, .int .i32 a, .int .i32 b, .int .i32 c, .int .i64 (ms.length : Int)]) (ws := []) (env := [(0, .nd 0 .one), (1, .agg (nds 1 K3)), (2, .fn 77 [] [])]) ?_ ?_ tb_ok ap_ok ?_
 ·
  refine midN_in ?_ .nil _ .nil trivial ?_
  ·
   exact .cons rfl (slOne hS) (.cons rfl ⟨_, rfl⟩ (.cons rfl ⟨_, rfl⟩ (.cons rfl ⟨_, rfl⟩ (.cons rfl ⟨_, rfl⟩ .nil))))
  ·
   exact .cons ⟨_, _, dNd rfl (slOne hS), dNd rfl ⟨_, rfl⟩, slLen hS⟩ .nil
 ·
  exact envNd rfl rfl (slOne hS) (envCons (show D _ _ _ (.agg (plc a b c)) from dAgg (by repeat (first | exact dlNil | refine dlCons (dNd rfl ⟨_, rfl⟩) ?_ | refine dlCons (dNd rfl ⟨_, rfl, by assumption⟩) ?_ | refine dlCons (dNd rfl (by assumption)) ?_))) (envFn rfl envNil))
 refine all1 (by kernel_rfl) ?_
 intro vs ls H1 E1 st hE
 have a0 : E1 0 = S := env_of st.inn hE 0 (by kernel_rfl)
 have a2 : E1 2 = .func 77 [] [] := env_of st.inn hE 2 (by kernel_rfl)
 have a8 : E1 8 = .int .i64 (ms.length : Int) := env_of st.inn hE 8 (by kernel_rfl)
 have a9 : E1 9 = .int .i64 ((0 : Nat) : Int) := env_of st.inn hE 9 (by kernel_rfl)
 have a10 : E1 10 = .int .i64 (ms.length : Int) := env_of st.inn hE 10 (by kernel_rfl)
 obtain ⟨p, a4, r4, _⟩ := ptr_of st.inn hE 4 0 (by kernel_rfl) (ds := [.int .i32 a, .int .i32 b, .int .i32 c]) (by kernel_rfl)
 have g1 : Grew H H1 := (gk st)
 clear st hE vs ls
 refine res_loop (by kernel_rfl) (fun m E2 H2 => ∃ i j : Nat, m + i = j ∧ j ≤ ms.length ∧ SlotsOk E2 [(0, S), (2, .func 77 [] []), (4, .ptr p 0), (8, .int .i64 (ms.length : Int))] ∧ E2 9 = .int .i64 (i : Int) ∧ E2 10 = .int .i64 (j : Int) ∧ Grew H1 H2 ∧
  (∀ t, t < i → cmpM (ms.getD t []) (plc a b c) < 0) ∧ (∀ t, j ≤ t → t < ms.length → ¬ cmpM (ms.getD t []) (plc a b c) < 0)) ms.length
  ⟨0, ms.length, rfl, Nat.le_refl _, .cons a0 (.cons a2 (.cons a4 (.cons a8 .nil))), a9, a10, Grew.refl H1, fun t ht => by omega, fun t h1 h2 => by omega⟩ ?_
 rintro m E2 H2 ⟨i, j, hm, hj, hs, h9, h10, hg2, hlo, hhi⟩
 have b0 := hs.head
 have b2 := hs.tail.head
 have b4 := hs.tail.tail.head
 have b8 := hs.tail.tail.tail.head
 have hso := slOne hS
 have r4' := hg2.at r4
 have gH2 := g1.trans hg2
 rcases Nat.lt_or_ge i j with hlt | hge
 ·
  obtain ⟨h, hh⟩ : ∃ h : Nat, h = (i + j) / 2 := ⟨_, rfl⟩
  have hhl : h < ms.length := by omega
  have hW : IntKind.i64.wrap ((IntKind.u64.wrap (IntKind.i64.wrap ((i : Int) + (j : Int)))).fdiv (2 ^ (min (1 : Int).toNat IntKind.u64.bits))) = (h : Int) := by
   rw [wrap_i64 (n := (i : Int) + (j : Int)) (by omega) (by omega), wrap_u64s (by omega) (by omega)]
   show IntKind.i64.wrap (((i : Int) + (j : Int)).fdiv 2) = _
   rw [Int.fdiv_eq_ediv_of_nonneg _ (by omega), wrap_i64 (by omega) (by omega)]
   omega
  cases hS with
  | nil h => rw [h] at hj; simp at hj; omega
  | @sl ls0 n cap rest wr2 hgS hn hc =>
   have hgS2 := gH2.at hgS
   subst hn
   have hD : ms.getD h [] = ms[h] := by simp [List.getD_eq_getElem?_getD, hhl]
   have hkm := hr.get hhl
   obtain ⟨v0, v1, v2, v3, v4, v5, v6, v7, v8, hm', o3, o4, o5, o6⟩ := partsMark hkm
   refine run_mn (φ := φ0) (pm := pmR 2 [(.ia 9 (.nd 0 .one) (.nd 20 (.int .i64)), .ptr 0 0), (.call 77 [.agg (nds 6 KM), .agg (nds 3 K3)], .nd 15 (.int .i64))] 0) 20
    (nk := [(.atom 0, .one), (.atom 1, .int .i64), (.atom 2, .int .i64), (.atom 3, .int .i32), (.atom 4, .int .i32), (.atom 5, .int .i32)] ++ ([(.atom 6, .int .i32), (.atom 7, .int .i32), (.atom 8, .int .i32), (.atom 9, .flt .f32), (.atom 10, .flt .f32), (.atom 11, .flt .f32), (.atom 12, .flt .f32), (.atom 13, .int .i64), (.atom 14, .int .i64)] ++ [(.atom 15, .int .i64), (.bin .lss (.nd 1 (.int .i64)) (.nd 2 (.int .i64)), .bool), (.bin .add (.nd 1 (.int .i64)) (.nd 2 (.int .i64)), .int .i64), (.conv (.ii .u64) (.nd 17 (.int .i64)), .int .u64), (.bin .shr (.nd 18 (.int .u64)) (.lit (.int .u64 1)), .int .u64), (.conv (.ii .i64) (.nd 19 (.int .u64)), .int .i64), (.atom 21, .int .i64)])) (fs := [(16, true)])
    (xs := [.slice ls0 0 ms.length cap 9, .int .i64 (i : Int), .int .i64 (j : Int), .int .i32 a, .int .i32 b, .int .i32 c, .int .i32 v0, .int .i32 v1, .int .i32 v2, .flt .f32 v3, .flt .f32 v4, .flt .f32 v5, .flt .f32 v6, .int .i64 v7, .int .i64 v8, .int .i64 (cmpM ms[h] (plc a b c)), .bool true, .int .i64 ((i + j : Nat) : Int), .int .u64 ((i + j : Nat) : Int), .int .u64 (h : Int), .int .i64 (h : Int), .int .i64 (ms.length : Int)])
    (ws := [⟨ls0, h * 9, nds 6 KM, false⟩, ⟨p, 0, nds 3 K3, false⟩]) (env := [(0, .nd 0 .one), (2, .fn 77 [] []), (4, .ptr 1 0), (8, .nd 21 (.int .i64)), (9, .nd 1 (.int .i64)), (10, .nd 2 (.int .i64))]) ?_ ?_ tb_ok ap_ok ?_
   ·
    refine midN_in ?_ ?_ _ ?_ ?_ ?_
    ·
     refine .cons rfl rfl (.cons rfl ⟨_, rfl⟩ ?_)
     (repeat (first | exact .nil | refine .cons rfl ⟨_, rfl⟩ ?_ | refine .cons rfl ⟨_, rfl, by assumption⟩ ?_ | refine .cons rfl (by assumption) ?_))
     refine .cons ⟨_, _, dNd rfl ⟨_, rfl⟩, dNd rfl ⟨_, rfl⟩, ?_⟩ ⟨_, rfl⟩ ?_
     ·
      show some (AV.bool (decide ((i : Int) < (j : Int)))) = _
      rw [decide_eq_true (by omega)]
     refine .cons ⟨_, _, dNd rfl ⟨_, rfl⟩, dNd rfl ⟨_, rfl⟩, ?_⟩ ⟨_, rfl⟩ ?_
     ·
      show some (AV.int .i64 (IntKind.i64.wrap ((i : Int) + (j : Int)))) = _
      rw [wrap_i64 (by omega) (by omega)]; simp
     refine .cons ⟨_, dNd rfl ⟨_, rfl⟩, ?_⟩ ⟨_, rfl⟩ ?_
     ·
      show some (AV.int .u64 (IntKind.u64.wrap ((i + j : Nat) : Int))) = _
      rw [wrap_u64s (by omega) (by omega)]
     refine .cons ⟨_, _, dNd rfl ⟨_, rfl⟩, dLit rfl, ?_⟩ ⟨_, rfl⟩ ?_
     ·
      show some (AV.int .u64 (((i + j : Nat) : Int).fdiv 2)) = _
      rw [hh, Int.fdiv_eq_ediv_of_nonneg _ (by omega)]; rfl
     refine .cons ⟨_, dNd rfl ⟨_, rfl⟩, ?_⟩ ⟨_, rfl⟩ ?_
     ·
      show some (AV.int .i64 (IntKind.i64.wrap (h : Int))) = _
      rw [wrap_i64 (by omega) (by omega)]
     exact .cons rfl ⟨_, rfl⟩ .nil
    ·
     exact .cons rfl .nil
    ·
     exact .cons (win_elem hr hgS2 hhl rfl (by rw [hm']; exact (by repeat (first | exact dlNil | refine dlCons (dNd rfl ⟨_, rfl⟩) ?_ | refine dlCons (dNd rfl ⟨_, rfl, by assumption⟩) ?_ | refine dlCons (dNd rfl (by assumption)) ?_)))) (.cons (win_row r4' (by repeat (first | exact dlNil | refine dlCons (dNd rfl ⟨_, rfl⟩) ?_ | refine dlCons (dNd rfl ⟨_, rfl, by assumption⟩) ?_ | refine dlCons (dNd rfl (by assumption)) ?_))) .nil)
    ·
     exact ⟨fun v hv h => (by simp at hv; subst hv; simp at h), ⟨fun v hv => (by cases hv), trivial⟩⟩
    ·
     exact .cons (rule_ia (k := h) (dNd rfl rfl) (dNd rfl ⟨_, rfl⟩) (by omega) rfl) (.cons (rule_call (args := [.agg ms[h], .agg (plc a b c)]) (dlCons (dAgg (by rw [hm']; exact (by repeat (first | exact dlNil | refine dlCons (dNd rfl ⟨_, rfl⟩) ?_ | refine dlCons (dNd rfl ⟨_, rfl, by assumption⟩) ?_ | refine dlCons (dNd rfl (by assumption)) ?_)))) (dlCons (dAgg (by repeat (first | exact dlNil | refine dlCons (dNd rfl ⟨_, rfl⟩) ?_ | refine dlCons (dNd rfl ⟨_, rfl, by assumption⟩) ?_ | refine dlCons (dNd rfl (by assumption)) ?_))) dlNil)) (dNd rfl ⟨_, rfl⟩) (fun H3 _ => k_findFn ms[h] hkm a b c H3)) .nil)
   ·
    exact envNd b0 rfl rfl (envFn b2 (envPtr (l := p) (o := 0) b4 rfl rfl (envNd b8 rfl ⟨_, rfl⟩ (envNd h9 rfl ⟨_, rfl⟩ (envNd h10 rfl ⟨_, rfl⟩ envNil)))))
   ·
    refine all2 (by kernel_rfl) ?_ ?_
    ·
     intro vs ls H4 E4 st hE
     have f1 : decide (cmpM ms[h] (plc a b c) < 0) = true := bf st 0
     have d0 : E4 0 = .slice ls0 0 ms.length cap 9 := env_of st.inn hE 0 (by kernel_rfl)
     have d2 : E4 2 = .func 77 [] [] := env_of st.inn hE 2 (by kernel_rfl)
     have d4 : E4 4 = .ptr p 0 := env_of st.inn hE 4 (by kernel_rfl)
     have d8 : E4 8 = .int .i64 (ms.length : Int) := env_of st.inn hE 8 (by kernel_rfl)
     have d9 : E4 9 = .int .i64 (IntKind.i64.wrap (IntKind.i64.wrap ((IntKind.u64.wrap (IntKind.i64.wrap ((i : Int) + (j : Int)))).fdiv (2 ^ (min (1 : Int).toNat IntKind.u64.bits))) + 1)) := env_of st.inn hE 9 (by kernel_rfl)
     have d10 : E4 10 = .int .i64 (j : Int) := env_of st.inn hE 10 (by kernel_rfl)
     rw [hW, wrap64 (by omega)] at d9
     have g4 : Grew H1 H4 := hg2.trans (gk st)
     refine res_ex (e := .normal) (by kernel_rfl) ?_
     refine ⟨j - (h + 1), by omega, h + 1, j, by omega, hj, .cons d0 (.cons d2 (.cons d4 (.cons d8 .nil))), d9, d10, g4, ?_, hhi⟩
     intro t ht
     exact sort_lt hr hsort hhl (by rw [hD]; exact of_decide_eq_true f1) (h - t) t (by omega)
    ·
     intro vs ls H4 E4 st hE
     have f1 : decide (cmpM ms[h] (plc a b c) < 0) = false := bf st 0
     have d0 : E4 0 = .slice ls0 0 ms.length cap 9 := env_of st.inn hE 0 (by kernel_rfl)
     have d2 : E4 2 = .func 77 [] [] := env_of st.inn hE 2 (by kernel_rfl)
     have d4 : E4 4 = .ptr p 0 := env_of st.inn hE 4 (by kernel_rfl)
     have d8 : E4 8 = .int .i64 (ms.length : Int) := env_of st.inn hE 8 (by kernel_rfl)
     have d9 : E4 9 = .int .i64 (i : Int) := env_of st.inn hE 9 (by kernel_rfl)
     have d10 : E4 10 = .int .i64 (IntKind.i64.wrap ((IntKind.u64.wrap (IntKind.i64.wrap ((i : Int) + (j : Int)))).fdiv (2 ^ (min (1 : Int).toNat IntKind.u64.bits)))) := env_of st.inn hE 10 (by kernel_rfl)
     rw [hW] at d10
     have g4 : Grew H1 H4 := hg2.trans (gk st)
     refine res_ex (e := .normal) (by kernel_rfl) ?_
     refine ⟨h - i, by omega, i, h, by omega, by omega, .cons d0 (.cons d2 (.cons d4 (.cons d8 .nil))), d9, d10, g4, hlo, ?_⟩
     intro t ht hl
     exact sort_ge hr hsort ht hl (by rw [hD]; exact of_decide_eq_false f1)
 ·
  obtain rfl : i = j := by omega
  have hlin : lin ms a b c = i := lin_is hj hlo (fun hi => hhi i (Nat.le_refl _) hi)
  refine run_mn (φ := φ0) (pm := pmR 1 [] 0) 20 (nk := [(.atom 0, .one), (.atom 1, .int .i64), (.atom 2, .int .i64), (.atom 3, .int .i32), (.atom 4, .int .i32), (.atom 5, .int .i32)]) (fs := []) (xs := [S, .int .i64 (i : Int), .int .i64 (ms.length : Int), .int .i32 a, .int .i32 b, .int .i32 c])
   (ws := [⟨p, 0, nds 3 K3, false⟩]) (env := [(0, .nd 0 .one), (2, .fn 77 [] []), (4, .ptr 0 0), (8, .nd 2 (.int .i64)), (9, .nd 1 (.int .i64)), (10, .nd 1 (.int .i64))]) ?_ ?_ tb_ok ap_ok ?_
  ·
   refine midN_in ?_ .nil _ ?_ ⟨fun v hv => (by cases hv), trivial⟩ .nil
   ·
    exact .cons rfl hso (.cons rfl ⟨_, rfl⟩ (.cons rfl ⟨_, rfl⟩ (.cons rfl ⟨_, rfl⟩ (.cons rfl ⟨_, rfl⟩ (.cons rfl ⟨_, rfl⟩ .nil)))))
   ·
    exact .cons (win_row r4' (by repeat (first | exact dlNil | refine dlCons (dNd rfl ⟨_, rfl⟩) ?_ | refine dlCons (dNd rfl ⟨_, rfl, by assumption⟩) ?_ | refine dlCons (dNd rfl (by assumption)) ?_))) .nil
  ·
   exact envNd b0 rfl hso (envFn b2 (envPtr (l := p) (o := 0) b4 rfl rfl (envNd b8 rfl ⟨_, rfl⟩ (envNd h9 rfl ⟨_, rfl⟩ (envNd h10 rfl ⟨_, rfl⟩ envNil)))))
  refine all1 (by kernel_rfl) ?_
  intro vs ls H4 E4 st hE
  have d0 : E4 0 = S := env_of st.inn hE 0 (by kernel_rfl)
  have d2 : E4 2 = .func 77 [] [] := env_of st.inn hE 2 (by kernel_rfl)
  have d4 : E4 4 = .ptr p 0 := env_of st.inn hE 4 (by kernel_rfl)
  have d8 : E4 8 = .int .i64 (ms.length : Int) := env_of st.inn hE 8 (by kernel_rfl)
  have d9 : E4 9 = .int .i64 (i : Int) := env_of st.inn hE 9 (by kernel_rfl)
  have g4 : Grew H2 H4 := (gk st)
  clear st hE vs ls
  have gH4 := gH2.trans g4
  have r4 := g4.at r4'
  refine res_exit (id := 0) (by kernel_rfl) ?_
  rcases Nat.lt_or_ge i ms.length with hlt | hge2
  ·
   have hD : ms.getD i [] = ms[i] := by simp [List.getD_eq_getElem?_getD, hlt]
   have hf : fnd ms a b c = decide (cmpM ms[i] (plc a b c) = 0) := by
    simp only [fnd, hlin, hD, decide_eq_true hlt, Bool.true_and]
   rw [hlin, hf]
   cases hS with
   | nil h => rw [h] at hlt; simp at hlt
   | @sl ls0 n cap rest wr2 hgS hn hc =>
    have hgS2 := gH4.at hgS
    subst hn
    have hkm := hr.get hlt
    obtain ⟨v0, v1, v2, v3, v4, v5, v6, v7, v8, hm', o3, o4, o5, o6⟩ := partsMark hkm
    refine run_mn (φ := φ0) (pm := pmR 2 [(.ia 9 (.nd 0 .one) (.nd 1 (.int .i64)), .ptr 0 0), (.call 77 [.agg (nds 6 KM), .agg (nds 3 K3)], .nd 15 (.int .i64))] 0) 20
     (nk := [(.atom 0, .one), (.atom 1, .int .i64), (.atom 2, .int .i64), (.atom 3, .int .i32), (.atom 4, .int .i32), (.atom 5, .int .i32)] ++ ([(.atom 6, .int .i32), (.atom 7, .int .i32), (.atom 8, .int .i32), (.atom 9, .flt .f32), (.atom 10, .flt .f32), (.atom 11, .flt .f32), (.atom 12, .flt .f32), (.atom 13, .int .i64), (.atom 14, .int .i64)] ++ [(.atom 15, .int .i64), (.bin .lss (.nd 1 (.int .i64)) (.nd 2 (.int .i64)), .bool)])) (fs := [(16, true)])
     (xs := [.slice ls0 0 ms.length cap 9, .int .i64 (i : Int), .int .i64 (ms.length : Int), .int .i32 a, .int .i32 b, .int .i32 c, .int .i32 v0, .int .i32 v1, .int .i32 v2, .flt .f32 v3, .flt .f32 v4, .flt .f32 v5, .flt .f32 v6, .int .i64 v7, .int .i64 v8, .int .i64 (cmpM ms[i] (plc a b c)), .bool true])
     (ws := [⟨ls0, i * 9, nds 6 KM, false⟩, ⟨p, 0, nds 3 K3, false⟩]) (env := [(0, .nd 0 .one), (2, .fn 77 [] []), (4, .ptr 1 0), (8, .nd 2 (.int .i64)), (9, .nd 1 (.int .i64))]) ?_ ?_ tb_ok ap_ok ?_
    ·
     refine midN_in ?_ ?_ _ ?_ ?_ ?_
     ·
      refine .cons rfl rfl (.cons rfl ⟨_, rfl⟩ ?_)
      (repeat (first | exact .nil | refine .cons rfl ⟨_, rfl⟩ ?_ | refine .cons rfl ⟨_, rfl, by assumption⟩ ?_ | refine .cons rfl (by assumption) ?_))
      refine .cons ⟨_, _, dNd rfl ⟨_, rfl⟩, dNd rfl ⟨_, rfl⟩, ?_⟩ ⟨_, rfl⟩ .nil
      show some (AV.bool (decide ((i : Int) < (ms.length : Int)))) = _
      rw [decide_eq_true (by omega)]
     ·
      exact .cons rfl .nil
     ·
      exact .cons (win_elem hr hgS2 hlt rfl (by rw [hm']; exact (by repeat (first | exact dlNil | refine dlCons (dNd rfl ⟨_, rfl⟩) ?_ | refine dlCons (dNd rfl ⟨_, rfl, by assumption⟩) ?_ | refine dlCons (dNd rfl (by assumption)) ?_)))) (.cons (win_row r4 (by repeat (first | exact dlNil | refine dlCons (dNd rfl ⟨_, rfl⟩) ?_ | refine dlCons (dNd rfl ⟨_, rfl, by assumption⟩) ?_ | refine dlCons (dNd rfl (by assumption)) ?_))) .nil)
     ·
      exact ⟨fun v hv h => (by simp at hv; subst hv; simp at h), ⟨fun v hv => (by cases hv), trivial⟩⟩
     ·
      exact .cons (rule_ia (k := i) (dNd rfl rfl) (dNd rfl ⟨_, rfl⟩) (by omega) rfl) (.cons (rule_call (args := [.agg ms[i], .agg (plc a b c)]) (dlCons (dAgg (by rw [hm']; exact (by repeat (first | exact dlNil | refine dlCons (dNd rfl ⟨_, rfl⟩) ?_ | refine dlCons (dNd rfl ⟨_, rfl, by assumption⟩) ?_ | refine dlCons (dNd rfl (by assumption)) ?_)))) (dlCons (dAgg (by repeat (first | exact dlNil | refine dlCons (dNd rfl ⟨_, rfl⟩) ?_ | refine dlCons (dNd rfl ⟨_, rfl, by assumption⟩) ?_ | refine dlCons (dNd rfl (by assumption)) ?_))) dlNil)) (dNd rfl ⟨_, rfl⟩) (fun H3 _ => k_findFn ms[i] hkm a b c H3)) .nil)
    ·
     exact envNd d0 rfl rfl (envFn d2 (envPtr (l := p) (o := 0) d4 rfl rfl (envNd d8 rfl ⟨_, rfl⟩ (envNd d9 rfl ⟨_, rfl⟩ envNil))))
    ·
     refine all1 (by kernel_rfl) ?_
     intro vs ls H5 E5 st hE
     exact res_ex (by kernel_rfl) (end_flat st.inn hE (.inr rfl) (a := .tuple [.int .i64 (i : Int), .bool (decide (cmpM ms[i] (plc a b c) = 0))]) (by kernel_rfl) (gH4.trans (gk st)) rfl ⟨rfl, rfl⟩)
  ·
   obtain rfl : i = ms.length := by omega
   have hf : fnd ms a b c = false := by simp [fnd, hlin]
   rw [hlin, hf]
   refine run_mn (φ := φ0) (pm := pmR 1 [] 0) 20 (nk := [(.atom 0, .one), (.atom 1, .int .i64), (.atom 2, .int .i32), (.atom 3, .int .i32), (.atom 4, .int .i32)]) (fs := []) (xs := [S, .int .i64 (ms.length : Int), .int .i32 a, .int .i32 b, .int .i32 c])
    (ws := [⟨p, 0, nds 2 K3, false⟩]) (env := [(0, .nd 0 .one), (2, .fn 77 [] []), (4, .ptr 0 0), (8, .nd 1 (.int .i64)), (9, .nd 1 (.int .i64))]) ?_ ?_ tb_ok ap_ok ?_
   ·
    refine midN_in ?_ .nil _ ?_ ⟨fun v hv => (by cases hv), trivial⟩ .nil
    ·
     exact .cons rfl hso (.cons rfl ⟨_, rfl⟩ (.cons rfl ⟨_, rfl⟩ (.cons rfl ⟨_, rfl⟩ (.cons rfl ⟨_, rfl⟩ .nil))))
    ·
     exact .cons (win_row r4 (by repeat (first | exact dlNil | refine dlCons (dNd rfl ⟨_, rfl⟩) ?_ | refine dlCons (dNd rfl ⟨_, rfl, by assumption⟩) ?_ | refine dlCons (dNd rfl (by assumption)) ?_))) .nil
   ·
    exact envNd d0 rfl hso (envFn d2 (envPtr (l := p) (o := 0) d4 rfl rfl (envNd d8 rfl ⟨_, rfl⟩ (envNd d9 rfl ⟨_, rfl⟩ envNil))))
   ·
    refine all1 (by kernel_rfl) ?_
    intro vs ls H5 E5 st hE
    exact res_ex (by kernel_rfl) (end_flat st.inn hE (.inr rfl) (a := .tuple [.int .i64 (ms.length : Int), .bool false]) (by kernel_rfl) (gH4.trans (gk st)) rfl ⟨rfl, rfl⟩)
end Go.Proofs.Ytacligocjfhckaa
