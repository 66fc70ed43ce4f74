/- Contracts: cells held against each other. -/
import Derived.Test.YtacligocjfhckaaTBase
set_option linter.unusedVariables false
set_option linter.unusedSimpArgs false
namespace Go.Proofs.Ytacligocjfhckaa
open Go.Ab
set_option maxRecDepth 100000
attribute [local irreducible] Res
def cmpI (a b : Int) : Int := if a < b then -1 else if b < a then 1 else 0
def cmp3 (a b c a' b' c' : Int) : Int := if cmpI a a' ≠ 0 then cmpI a a' else if cmpI b b' ≠ 0 then cmpI b b' else cmpI c c'
def K3 : List Kd := [.int .i32, .int .i32, .int .i32]
theorem kd3 (a b c : Int) : KdsL K3 [.int .i32 a, .int .i32 b, .int .i32 c] := .cons ⟨_, rfl⟩ (.cons ⟨_, rfl⟩ (.cons ⟨_, rfl⟩ .nil))
theorem k_comparePlaces (H : AHeap) (a b c a' b' c' : Int) : APure Try.prog 56 [.agg [.int .i32 a, .int .i32 b, .int .i32 c], .agg [.int .i32 a', .int .i32 b', .int .i32 c']] H (.int .i64 (cmp3 a b c a' b' c')) := by
 refine run_g (φ := φ0) (pm := pm) 20 rfl rfl tb_ok ap_ok h_impl_comparePlaces (gk := [(true, K3), (true, K3)]) (.cons (kd3 a b c) (.cons (kd3 a' b' c') .nil)) (by decide) ?_
 refine all7 (by kernel_rfl) ?_ ?_ ?_ ?_ ?_ ?_ ?_
 ·
  -- 0: ret
  intro vs ls H' E' st hE
  have f0 : (decide (a < a')) = true := bf st 0
  refine res_ex (by kernel_rfl) (end_flat st.inn hE (.inr rfl) (a := .int .i64 (-1)) (by kernel_rfl) (st.kept.grew (Nat.zero_le _)) rfl ⟨?_, rfl⟩)
  clear st hE; simp only [decide_eq_true_eq, decide_eq_false_iff_not] at *; congr 1; simp only [cmp3, cmpI]; (repeat' split) <;> omega
 ·
  -- 1: ret
  intro vs ls H' E' st hE
  have f0 : (decide (a' < a)) = true := bf st 0
  have f1 : (decide (a < a')) = false := bf st 1
  refine res_ex (by kernel_rfl) (end_flat st.inn hE (.inr rfl) (a := .int .i64 1) (by kernel_rfl) (st.kept.grew (Nat.zero_le _)) rfl ⟨?_, rfl⟩)
  clear st hE; simp only [decide_eq_true_eq, decide_eq_false_iff_not] at *; congr 1; simp only [cmp3, cmpI]; (repeat' split) <;> omega
 ·
  -- 2: ret
  intro vs ls H' E' st hE
  have f0 : (decide (b < b')) = true := bf st 0
  have f1 : (decide (a' < a)) = false := bf st 1
  have f2 : (decide (a < a')) = false := bf st 2
  refine res_ex (by kernel_rfl) (end_flat st.inn hE (.inr rfl) (a := .int .i64 (-1)) (by kernel_rfl) (st.kept.grew (Nat.zero_le _)) rfl ⟨?_, rfl⟩)
  clear st hE; simp only [decide_eq_true_eq, decide_eq_false_iff_not] at *; congr 1; simp only [cmp3, cmpI]; (repeat' split) <;> omega
 ·
  -- 3: ret
  intro vs ls H' E' st hE
  have f0 : (decide (b' < b)) = true := bf st 0
  have f1 : (decide (b < b')) = false := bf st 1
  have f2 : (decide (a' < a)) = false := bf st 2
  have f3 : (decide (a < a')) = false := bf st 3
  refine res_ex (by kernel_rfl) (end_flat st.inn hE (.inr rfl) (a := .int .i64 1) (by kernel_rfl) (st.kept.grew (Nat.zero_le _)) rfl ⟨?_, rfl⟩)
  clear st hE; simp only [decide_eq_true_eq, decide_eq_false_iff_not] at *; congr 1; simp only [cmp3, cmpI]; (repeat' split) <;> omega
 ·
  -- 4: ret
  intro vs ls H' E' st hE
  have f0 : (decide (c < c')) = true := bf st 0
  have f1 : (decide (b' < b)) = false := bf st 1
  have f2 : (decide (b < b')) = false := bf st 2
  have f3 : (decide (a' < a)) = false := bf st 3
  have f4 : (decide (a < a')) = false := bf st 4
  refine res_ex (by kernel_rfl) (end_flat st.inn hE (.inr rfl) (a := .int .i64 (-1)) (by kernel_rfl) (st.kept.grew (Nat.zero_le _)) rfl ⟨?_, rfl⟩)
  clear st hE; simp only [decide_eq_true_eq, decide_eq_false_iff_not] at *; congr 1; simp only [cmp3, cmpI]; (repeat' split) <;> omega
 ·
  -- 5: ret
  intro vs ls H' E' st hE
  have f0 : (decide (c' < c)) = true := bf st 0
  have f1 : (decide (c < c')) = false := bf st 1
  have f2 : (decide (b' < b)) = false := bf st 2
  have f3 : (decide (b < b')) = false := bf st 3
  have f4 : (decide (a' < a)) = false := bf st 4
  have f5 : (decide (a < a')) = false := bf st 5
  refine res_ex (by kernel_rfl) (end_flat st.inn hE (.inr rfl) (a := .int .i64 1) (by kernel_rfl) (st.kept.grew (Nat.zero_le _)) rfl ⟨?_, rfl⟩)
  clear st hE; simp only [decide_eq_true_eq, decide_eq_false_iff_not] at *; congr 1; simp only [cmp3, cmpI]; (repeat' split) <;> omega
 ·
  -- 6: ret
  intro vs ls H' E' st hE
  have f0 : (decide (c' < c)) = false := bf st 0
  have f1 : (decide (c < c')) = false := bf st 1
  have f2 : (decide (b' < b)) = false := bf st 2
  have f3 : (decide (b < b')) = false := bf st 3
  have f4 : (decide (a' < a)) = false := bf st 4
  have f5 : (decide (a < a')) = false := bf st 5
  refine res_ex (by kernel_rfl) (end_flat st.inn hE (.inr rfl) (a := .int .i64 0) (by kernel_rfl) (st.kept.grew (Nat.zero_le _)) rfl ⟨?_, rfl⟩)
  clear st hE; simp only [decide_eq_true_eq, decide_eq_false_iff_not] at *; congr 1; simp only [cmp3, cmpI]; (repeat' split) <;> omega

theorem k_l05Compare (H : AHeap) (a b c a' b' c' : Int) : APure Try.prog 48 [.agg [.int .i32 a, .int .i32 b, .int .i32 c], .agg [.int .i32 a', .int .i32 b', .int .i32 c']] H (.int .i64 (cmp3 a b c a' b' c')) := by
 refine run_g (φ := φ0) (pm := pm) 20 rfl rfl tb_ok ap_ok h_spec_l05Compare (gk := [(true, K3), (true, K3)]) (.cons (kd3 a b c) (.cons (kd3 a' b' c') .nil)) (by decide) ?_
 refine all7 (by kernel_rfl) ?_ ?_ ?_ ?_ ?_ ?_ ?_
 ·
  -- 0: ret
  intro vs ls H' E' st hE
  have f0 : (decide (a < a')) = true := bf st 0
  refine res_ex (by kernel_rfl) (end_flat st.inn hE (.inr rfl) (a := .int .i64 (-1)) (by kernel_rfl) (st.kept.grew (Nat.zero_le _)) rfl ⟨?_, rfl⟩)
  clear st hE; simp only [decide_eq_true_eq, decide_eq_false_iff_not] at *; congr 1; simp only [cmp3, cmpI]; (repeat' split) <;> omega
 ·
  -- 1: ret
  intro vs ls H' E' st hE
  have f0 : (decide (a' < a)) = true := bf st 0
  have f1 : (decide (a < a')) = false := bf st 1
  refine res_ex (by kernel_rfl) (end_flat st.inn hE (.inr rfl) (a := .int .i64 1) (by kernel_rfl) (st.kept.grew (Nat.zero_le _)) rfl ⟨?_, rfl⟩)
  clear st hE; simp only [decide_eq_true_eq, decide_eq_false_iff_not] at *; congr 1; simp only [cmp3, cmpI]; (repeat' split) <;> omega
 ·
  -- 2: ret
  intro vs ls H' E' st hE
  have f0 : (decide (b < b')) = true := bf st 0
  have f1 : (decide (a' < a)) = false := bf st 1
  have f2 : (decide (a < a')) = false := bf st 2
  refine res_ex (by kernel_rfl) (end_flat st.inn hE (.inr rfl) (a := .int .i64 (-1)) (by kernel_rfl) (st.kept.grew (Nat.zero_le _)) rfl ⟨?_, rfl⟩)
  clear st hE; simp only [decide_eq_true_eq, decide_eq_false_iff_not] at *; congr 1; simp only [cmp3, cmpI]; (repeat' split) <;> omega
 ·
  -- 3: ret
  intro vs ls H' E' st hE
  have f0 : (decide (b' < b)) = true := bf st 0
  have f1 : (decide (b < b')) = false := bf st 1
  have f2 : (decide (a' < a)) = false := bf st 2
  have f3 : (decide (a < a')) = false := bf st 3
  refine res_ex (by kernel_rfl) (end_flat st.inn hE (.inr rfl) (a := .int .i64 1) (by kernel_rfl) (st.kept.grew (Nat.zero_le _)) rfl ⟨?_, rfl⟩)
  clear st hE; simp only [decide_eq_true_eq, decide_eq_false_iff_not] at *; congr 1; simp only [cmp3, cmpI]; (repeat' split) <;> omega
 ·
  -- 4: ret
  intro vs ls H' E' st hE
  have f0 : (decide (c < c')) = true := bf st 0
  have f1 : (decide (b' < b)) = false := bf st 1
  have f2 : (decide (b < b')) = false := bf st 2
  have f3 : (decide (a' < a)) = false := bf st 3
  have f4 : (decide (a < a')) = false := bf st 4
  refine res_ex (by kernel_rfl) (end_flat st.inn hE (.inr rfl) (a := .int .i64 (-1)) (by kernel_rfl) (st.kept.grew (Nat.zero_le _)) rfl ⟨?_, rfl⟩)
  clear st hE; simp only [decide_eq_true_eq, decide_eq_false_iff_not] at *; congr 1; simp only [cmp3, cmpI]; (repeat' split) <;> omega
 ·
  -- 5: ret
  intro vs ls H' E' st hE
  have f0 : (decide (c' < c)) = true := bf st 0
  have f1 : (decide (c < c')) = false := bf st 1
  have f2 : (decide (b' < b)) = false := bf st 2
  have f3 : (decide (b < b')) = false := bf st 3
  have f4 : (decide (a' < a)) = false := bf st 4
  have f5 : (decide (a < a')) = false := bf st 5
  refine res_ex (by kernel_rfl) (end_flat st.inn hE (.inr rfl) (a := .int .i64 1) (by kernel_rfl) (st.kept.grew (Nat.zero_le _)) rfl ⟨?_, rfl⟩)
  clear st hE; simp only [decide_eq_true_eq, decide_eq_false_iff_not] at *; congr 1; simp only [cmp3, cmpI]; (repeat' split) <;> omega
 ·
  -- 6: ret
  intro vs ls H' E' st hE
  have f0 : (decide (c' < c)) = false := bf st 0
  have f1 : (decide (c < c')) = false := bf st 1
  have f2 : (decide (b' < b)) = false := bf st 2
  have f3 : (decide (b < b')) = false := bf st 3
  have f4 : (decide (a' < a)) = false := bf st 4
  have f5 : (decide (a < a')) = false := bf st 5
  refine res_ex (by kernel_rfl) (end_flat st.inn hE (.inr rfl) (a := .int .i64 0) (by kernel_rfl) (st.kept.grew (Nat.zero_le _)) rfl ⟨?_, rfl⟩)
  clear st hE; simp only [decide_eq_true_eq, decide_eq_false_iff_not] at *; congr 1; simp only [cmp3, cmpI]; (repeat' split) <;> omega

theorem cmp3_anti (a b c a' b' c' : Int) : (cmp3 a b c a' b' c' ≤ 0) ↔ (0 ≤ cmp3 a' b' c' a b c) := by
 simp only [cmp3, cmpI]
 (repeat' split) <;> omega
end Go.Proofs.Ytacligocjfhckaa
