/- Contracts: the place of a cell by halving. -/
import Derived.Test.YtacligocjfhckaaTFind
import Derived.Test.YtacligocjfhckaaSxC
set_option linter.unusedVariables false
set_option linter.unusedSimpArgs false
namespace Go.Proofs.Ytacligocjfhckaa
open Go.Ab
set_option maxRecDepth 100000
attribute [local irreducible] Res
theorem cmp3_trans {a b c a' b' c' x y z : Int} (h : cmp3 a b c a' b' c' < 0) (k : cmp3 a' b' c' x y z < 0) : cmp3 a b c x y z < 0 := by
 have e : ∀ {a b c a' b' c' : Int}, cmp3 a b c a' b' c' < 0 ↔ (a < a' ∨ (a = a' ∧ (b < b' ∨ (b = b' ∧ c < c')))) := by
  intro a b c a' b' c'
  simp only [cmp3, cmpI]
  (repeat' split) <;> omega
 rw [e] at *
 omega
def SortM (ms : List (List AV)) : Prop := ∀ t, t + 1 < ms.length → cmpM (ms.getD t []) (ms.getD (t + 1) []) < 0
theorem sort_lt {ms : List (List AV)} (hr : Recs KM ms) (hs : SortM ms) {a b c : Int} {h : Nat} (hh : h < ms.length) (hc : cmpM (ms.getD h []) (plc a b c) < 0) : ∀ d t, t + d = h → cmpM (ms.getD t []) (plc a b c) < 0
 | 0, t, e => by
  obtain rfl : t = h := by omega
  exact hc
 | d + 1, t, e => by
  have i1 := sort_lt hr hs hh hc d (t + 1) (by omega)
  have i2 := hs t (by omega)
  have hg0 : ms.getD t [] = ms[t]'(by omega) := by simp [List.getD_eq_getElem?_getD, show t < ms.length by omega]
  have hg1 : ms.getD (t + 1) [] = ms[t + 1]'(by omega) := by simp [List.getD_eq_getElem?_getD, show t + 1 < ms.length by omega]
  obtain ⟨v0, v1, v2, v3, v4, v5, v6, v7, v8, hm, _⟩ := partsMark (hr.get (show t < ms.length by omega))
  obtain ⟨w0, w1, w2, w3, w4, w5, w6, w7, w8, hn, _⟩ := partsMark (hr.get (show t + 1 < ms.length by omega))
  rw [hg0, hm] at i2 ⊢
  rw [hg1, hn] at i1 i2
  exact cmp3_trans (show cmp3 v0 v1 v2 w0 w1 w2 < 0 from i2) (show cmp3 w0 w1 w2 a b c < 0 from i1)
theorem sort_ge {ms : List (List AV)} (hr : Recs KM ms) (hs : SortM ms) {a b c : Int} {h t : Nat} (ht : h ≤ t) (hl : t < ms.length) (hc : ¬ cmpM (ms.getD h []) (plc a b c) < 0) : ¬ cmpM (ms.getD t []) (plc a b c) < 0 := fun k => hc (sort_lt hr hs hl k (t - h) h (by omega))
theorem okMap_sort {x : Option Nat} {ms : List (List AV)} (h : okMap x ms = true) : SortM ms := by
 intro t ht
 simp only [okMap, Bool.and_eq_true, List.all_eq_true, List.mem_range] at h
 have := h.2.2 (t + 1) ht
 simp only [okAt, Bool.and_eq_true, Bool.or_eq_true, beq_iff_eq, decide_eq_true_eq] at this
 rcases this.2 with h | h
 ·
  omega
 ·
  simpa using h
theorem k_findFn (m : List AV) (hm : KdsL KM m) (a b c : Int) (H : AHeap) : APure Try.prog 77 [.agg m, .agg (plc a b c)] H (.int .i64 (cmpM m (plc a b c))) := by
 obtain ⟨v0, v1, v2, v3, v4, v5, v6, v7, v8, rfl, o3, o4, o5, o6⟩ := partsMark hm
 show APure _ _ _ _ (.int .i64 (cmp3 v0 v1 v2 a b c))
 refine res_start h_impl_LandMap_find_1 (by simp) ?_
 refine run_mn (φ := φ0) (pm := pmR 0 [(.call 56 [.agg (nds 0 K3), .agg (nds 9 K3)], .nd 12 (.int .i64))] 0) 20
  (nk := [(.atom 0, .int .i32), (.atom 1, .int .i32), (.atom 2, .int .i32), (.atom 3, .flt .f32), (.atom 4, .flt .f32), (.atom 5, .flt .f32), (.atom 6, .flt .f32), (.atom 7, .int .i64), (.atom 8, .int .i64), (.atom 9, .int .i32), (.atom 10, .int .i32), (.atom 11, .int .i32), (.atom 12, .int .i64)]) (fs := [])
  (xs := [.int .i32 v0, .int .i32 v1, .int .i32 v2, .flt .f32 v3, .flt .f32 v4, .flt .f32 v5, .flt .f32 v6, .int .i64 v7, .int .i64 v8, .int .i32 a, .int .i32 b, .int .i32 c, .int .i64 (cmp3 v0 v1 v2 a b c)]) (ws := []) (env := [(0, .agg (nds 0 KM)), (1, .agg (nds 9 K3))]) ?_ ?_ tb_ok ap_ok ?_
 ·
  refine midN_in ?_ .nil _ .nil trivial ?_
  ·
   (repeat (first | exact .nil | refine .cons rfl ⟨_, rfl⟩ ?_ | refine .cons rfl ⟨_, rfl, by assumption⟩ ?_ | refine .cons rfl (by assumption) ?_))
  ·
   exact .cons (rule_call (args := [.agg (plc v0 v1 v2), .agg (plc a b c)]) (dlCons (dAgg (by repeat (first | exact dlNil | refine dlCons (dNd rfl ⟨_, rfl⟩) ?_ | refine dlCons (dNd rfl ⟨_, rfl, by assumption⟩) ?_ | refine dlCons (dNd rfl (by assumption)) ?_))) (dlCons (dAgg (by repeat (first | exact dlNil | refine dlCons (dNd rfl ⟨_, rfl⟩) ?_ | refine dlCons (dNd rfl ⟨_, rfl, by assumption⟩) ?_ | refine dlCons (dNd rfl (by assumption)) ?_))) dlNil)) (dNd rfl ⟨_, rfl⟩) (fun H3 _ => k_comparePlaces H3 v0 v1 v2 a b c)) .nil
 ·
  exact envCons (dAgg (by repeat (first | exact dlNil | refine dlCons (dNd rfl ⟨_, rfl⟩) ?_ | refine dlCons (dNd rfl ⟨_, rfl, by assumption⟩) ?_ | refine dlCons (dNd rfl (by assumption)) ?_))) (envCons (show D _ _ _ (.agg (plc a b c)) from dAgg (by repeat (first | exact dlNil | refine dlCons (dNd rfl ⟨_, rfl⟩) ?_ | refine dlCons (dNd rfl ⟨_, rfl, by assumption⟩) ?_ | refine dlCons (dNd rfl (by assumption)) ?_))) envNil)
 refine all1 (by kernel_rfl) ?_
 intro vs ls H1 E1 st hE
 exact res_ex (by kernel_rfl) (end_flat st.inn hE (.inr rfl) (a := .int .i64 (cmp3 v0 v1 v2 a b c)) (by kernel_rfl) (gk st) rfl ⟨rfl, rfl⟩)
end Go.Proofs.Ytacligocjfhckaa
