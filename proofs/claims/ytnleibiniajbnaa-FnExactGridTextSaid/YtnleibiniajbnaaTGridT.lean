/- Contracts: texts of grids, by both. -/
import Derived.Test.YtnleibiniajbnaaTGridC
import Derived.Test.YtnleibiniajbnaaSxE
set_option linter.unusedVariables false
set_option linter.unusedSimpArgs false
namespace Go.Proofs.Ytnleibiniajbnaa
open Go.Ab
set_option maxRecDepth 100000
set_option maxHeartbeats 1000000
attribute [local irreducible] Res
def signX (c : Int) : Int := if c = 0 then 46 else if c = 255 then 35 else if Int.tmod c 10 = 0 then (if 90 < c then 63 else IntKind.u8.wrap (48 + IntKind.u8.wrap (Int.tdiv c 10))) else 63
def b0X : List AV → Int
 | [.int _ c] => c
 | _ => 0
def gridT (w : Int) (ms : List (List AV)) : Nat → List (List AV)
 | 0 => []
 | k + 1 => if Int.tmod ((k : Int) + 1) w = 0 then (gridT w ms k ++ [[.int .u8 (signX (b0X (ms.getD k [])))]]) ++ [[.int .u8 10]] else gridT w ms k ++ [[.int .u8 (signX (b0X (ms.getD k [])))]]
theorem gridT_len (w : Int) (ms : List (List AV)) : ∀ k, (gridT w ms k).length ≤ 2 * k
 | 0 => Nat.le_refl _
 | k + 1 => by
  have ih := gridT_len w ms k
  unfold gridT
  split <;> simp only [List.length_append, List.length_singleton] <;> omega
theorem gridT_recs (w : Int) (ms : List (List AV)) : ∀ k, Recs KB (gridT w ms k)
 | 0 => .nil
 | k + 1 => by
  have ih := gridT_recs w ms k
  unfold gridT
  split
  ·
   exact Recs.append (Recs.append ih (Recs.one (ks := KB) (.cons ⟨_, rfl⟩ .nil))) (Recs.one (ks := KB) (.cons ⟨_, rfl⟩ .nil))
  ·
   exact Recs.append ih (Recs.one (ks := KB) (.cons ⟨_, rfl⟩ .nil))
theorem gridT_two {w : Int} {ms : List (List AV)} {k : Nat} {c : Int} (h : Int.tmod ((k : Int) + 1) w = 0) (he : ms.getD k [] = [.int .u8 c]) : gridT w ms (k + 1) = (gridT w ms k ++ [[.int .u8 (signX c)]]) ++ [[.int .u8 10]] := by
 show (if _ then _ else _) = _
 rw [if_pos h, he]; rfl
theorem gridT_one {w : Int} {ms : List (List AV)} {k : Nat} {c : Int} (h : ¬ Int.tmod ((k : Int) + 1) w = 0) (he : ms.getD k [] = [.int .u8 c]) : gridT w ms (k + 1) = gridT w ms k ++ [[.int .u8 (signX c)]] := by
 show (if _ then _ else _) = _
 rw [if_neg h, he]; rfl
def okGr (x y : Int) (ms : List (List AV)) : Bool := decide (1 ≤ x ∧ x ≤ 24 ∧ 1 ≤ y ∧ y ≤ 24 ∧ (ms.length : Int) = x * y)
theorem okGr_facts {x y : Int} {ms : List (List AV)} (h : okGr x y ms = true) : 1 ≤ x ∧ x ≤ 24 ∧ 1 ≤ y ∧ y ≤ 24 ∧ (ms.length : Int) = x * y ∧ ms.length ≤ 576 := by
 have h := of_decide_eq_true h
 obtain ⟨h1, h2, h3, h4, h5⟩ := h
 have hb2 : x * y ≤ 24 * 24 := Int.mul_le_mul (by omega) (by omega) (by omega) (by omega)
 exact ⟨h1, h2, h3, h4, h5, by omega⟩
def gridS (x y : Int) (ms : List (List AV)) : List UInt8 := if okGr x y ms = true then strOf (gridT x ms ms.length) else []
theorem k_costLetter (H : AHeap) (c : Int) : APure Try.prog 77 [.int .u8 c] H (.int .u8 (signX c)) := by
 refine res_start h_impl_costLetter (by simp) ?_
 have q1 : KdsL [.int .u8] [.int .u8 c] := .cons ⟨_, rfl⟩ .nil
 refine run_mc (φ := φ0) (pm := pmR 0 [] 4) 20 (ws := []) (env := [(0, .nd 0 (.int .u8))]) q1 .nil (sepOk_ro rfl) .nil (eC q1 (.cons (t := 0) rfl .nil)) tb_ok ap_ok ?_
 refine all5 (by kernel_rfl) ?_ ?_ ?_ ?_ ?_
 ·
  intro vs ls H2 E2 st hE
  have f3 : c = 0 := dt st 0
  refine res_ex (by kernel_rfl) (end_flat st.inn hE (.inr rfl) (a := .int .u8 46) (by kernel_rfl) (Grew.trans (Grew.refl _) (gk st)) rfl ⟨?_, rfl⟩)
  simp [signX, f3]
 ·
  intro vs ls H4 E4 st hE
  have f5 : c = 255 := dt st 0
  have f6 : ¬ (c = 0) := df st 1
  refine res_ex (by kernel_rfl) (end_flat st.inn hE (.inr rfl) (a := .int .u8 35) (by kernel_rfl) (Grew.trans (Grew.refl _) (gk st)) rfl ⟨?_, rfl⟩)
  simp [signX, f5, f6]
 ·
  intro vs ls H7 E7 st hE
  have f8 : ¬ (90 < c) := df st 0
  have f9 : (Int.tmod c 10) = 0 := dt st 1
  have f10 : ¬ (c = 255) := df st 2
  have f11 : ¬ (c = 0) := df st 3
  refine res_ex (by kernel_rfl) (end_flat st.inn hE (.inr rfl) (a := .int .u8 (IntKind.wrap .u8 (48 + (IntKind.wrap .u8 (Int.tdiv c 10))))) (by kernel_rfl) (Grew.trans (Grew.refl _) (gk st)) rfl ⟨?_, rfl⟩)
  simp [signX, f8, f9, f10, f11]
 ·
  intro vs ls H12 E12 st hE
  have f13 : 90 < c := dt st 0
  have f14 : (Int.tmod c 10) = 0 := dt st 1
  have f15 : ¬ (c = 255) := df st 2
  have f16 : ¬ (c = 0) := df st 3
  refine res_ex (by kernel_rfl) (end_flat st.inn hE (.inr rfl) (a := .int .u8 63) (by kernel_rfl) (Grew.trans (Grew.refl _) (gk st)) rfl ⟨?_, rfl⟩)
  simp [signX, f13, f14, f15, f16]
 ·
  intro vs ls H17 E17 st hE
  have f18 : ¬ ((Int.tmod c 10) = 0) := df st 0
  have f19 : ¬ (c = 255) := df st 1
  have f20 : ¬ (c = 0) := df st 2
  refine res_ex (by kernel_rfl) (end_flat st.inn hE (.inr rfl) (a := .int .u8 63) (by kernel_rfl) (Grew.trans (Grew.refl _) (gk st)) rfl ⟨?_, rfl⟩)
  simp [signX, f18, f19, f20]
theorem k_l07Sign (H : AHeap) (c : Int) : APure Try.prog 114 [.int .u8 c] H (.int .u8 (signX c)) := by
 refine res_start h_spec_l07Sign (by simp) ?_
 have q1 : KdsL [.int .u8] [.int .u8 c] := .cons ⟨_, rfl⟩ .nil
 refine run_mc (φ := φ0) (pm := pmR 0 [] 4) 20 (ws := []) (env := [(0, .nd 0 (.int .u8))]) q1 .nil (sepOk_ro rfl) .nil (eC q1 (.cons (t := 0) rfl .nil)) tb_ok ap_ok ?_
 refine all5 (by kernel_rfl) ?_ ?_ ?_ ?_ ?_
 ·
  intro vs ls H2 E2 st hE
  have f3 : c = 0 := dt st 0
  refine res_ex (by kernel_rfl) (end_flat st.inn hE (.inr rfl) (a := .int .u8 46) (by kernel_rfl) (Grew.trans (Grew.refl _) (gk st)) rfl ⟨?_, rfl⟩)
  simp [signX, f3]
 ·
  intro vs ls H4 E4 st hE
  have f5 : c = 255 := dt st 0
  have f6 : ¬ (c = 0) := df st 1
  refine res_ex (by kernel_rfl) (end_flat st.inn hE (.inr rfl) (a := .int .u8 35) (by kernel_rfl) (Grew.trans (Grew.refl _) (gk st)) rfl ⟨?_, rfl⟩)
  simp [signX, f5, f6]
 ·
  intro vs ls H7 E7 st hE
  have f8 : ¬ (90 < c) := df st 0
  have f9 : (Int.tmod c 10) = 0 := dt st 1
  have f10 : ¬ (c = 255) := df st 2
  have f11 : ¬ (c = 0) := df st 3
  refine res_ex (by kernel_rfl) (end_flat st.inn hE (.inr rfl) (a := .int .u8 (IntKind.wrap .u8 (48 + (IntKind.wrap .u8 (Int.tdiv c 10))))) (by kernel_rfl) (Grew.trans (Grew.refl _) (gk st)) rfl ⟨?_, rfl⟩)
  simp [signX, f8, f9, f10, f11]
 ·
  intro vs ls H12 E12 st hE
  have f13 : 90 < c := dt st 0
  have f14 : (Int.tmod c 10) = 0 := dt st 1
  have f15 : ¬ (c = 255) := df st 2
  have f16 : ¬ (c = 0) := df st 3
  refine res_ex (by kernel_rfl) (end_flat st.inn hE (.inr rfl) (a := .int .u8 63) (by kernel_rfl) (Grew.trans (Grew.refl _) (gk st)) rfl ⟨?_, rfl⟩)
  simp [signX, f13, f14, f15, f16]
 ·
  intro vs ls H17 E17 st hE
  have f18 : ¬ ((Int.tmod c 10) = 0) := df st 0
  have f19 : ¬ (c = 255) := df st 1
  have f20 : ¬ (c = 0) := df st 2
  refine res_ex (by kernel_rfl) (end_flat st.inn hE (.inr rfl) (a := .int .u8 63) (by kernel_rfl) (Grew.trans (Grew.refl _) (gk st)) rfl ⟨?_, rfl⟩)
  simp [signX, f18, f19, f20]
theorem k_impl_ValidGrid (H : AHeap) (x y : Int) (ms : List (List AV)) (hr : Recs KB ms) (S : AV) (hS : SlL H 1 ms S) (hmx : ms.length < 2 ^ 40) : APure Try.prog 16 [.agg [.int .i64 x, .int .i64 y, S]] H (.bool (okGr x y ms)) := by
 refine res_start h_impl_ValidGrid (by simp) ?_
 have q1 : KdsL [.one, KI, KI, KI] [S, .int .i64 x, .int .i64 y, .int .i64 (ms.length : Int)] := .cons (slOne hS) (.cons ⟨_, rfl⟩ (.cons ⟨_, rfl⟩ (.cons ⟨_, rfl⟩ .nil)))
 refine run_mc (φ := φ0) (pm := pmR 0 [(.len (n1 0), nI 3)] 6) 20 (ws := []) (env := [(0, .agg [nI 1, nI 2, n1 0])]) q1 .nil (sepOk_ro rfl) (.cons (⟨_, _, (dE q1), (dE q1), slLen hS⟩) .nil) (eC q1 (.cons (t := 0) rfl .nil)) tb_ok ap_ok ?_
 refine all5 (by kernel_rfl) ?_ ?_ ?_ ?_ ?_
 ·
  intro vs ls H2 E2 st hE
  have f3 : ¬ (24 < y) := df st 0
  have f4 : ¬ (y < 1) := df st 1
  have f5 : ¬ (24 < x) := df st 2
  have f6 : ¬ (x < 1) := df st 3
  refine res_ex (by kernel_rfl) (end_flat st.inn hE (.inr rfl) (a := .bool (decide ((ms.length : Int) = (IntKind.wrap .i64 (x * y))))) (by kernel_rfl) (Grew.trans (Grew.refl _) (gk st)) rfl ⟨?_, rfl⟩)
  have hb1 : 0 ≤ x * y := Int.mul_nonneg (by omega) (by omega)
  have hb2 : x * y ≤ 24 * 24 := Int.mul_le_mul (by omega) (by omega) (by omega) (by omega)
  rw [wrap_i64 (by omega) (by omega)]; unfold okGr; congr 1; rw [decide_eq_decide]; omega
 ·
  intro vs ls H7 E7 st hE
  have f8 : 24 < y := dt st 0
  have f9 : ¬ (y < 1) := df st 1
  have f10 : ¬ (24 < x) := df st 2
  have f11 : ¬ (x < 1) := df st 3
  refine res_ex (by kernel_rfl) (end_flat st.inn hE (.inr rfl) (a := .bool false) (by kernel_rfl) (Grew.trans (Grew.refl _) (gk st)) rfl ⟨?_, rfl⟩)
  exact congrArg AV.bool (decide_eq_false (by omega)).symm
 ·
  intro vs ls H12 E12 st hE
  have f13 : y < 1 := dt st 0
  have f14 : ¬ (24 < x) := df st 1
  have f15 : ¬ (x < 1) := df st 2
  refine res_ex (by kernel_rfl) (end_flat st.inn hE (.inr rfl) (a := .bool false) (by kernel_rfl) (Grew.trans (Grew.refl _) (gk st)) rfl ⟨?_, rfl⟩)
  exact congrArg AV.bool (decide_eq_false (by omega)).symm
 ·
  intro vs ls H16 E16 st hE
  have f17 : 24 < x := dt st 0
  have f18 : ¬ (x < 1) := df st 1
  refine res_ex (by kernel_rfl) (end_flat st.inn hE (.inr rfl) (a := .bool false) (by kernel_rfl) (Grew.trans (Grew.refl _) (gk st)) rfl ⟨?_, rfl⟩)
  exact congrArg AV.bool (decide_eq_false (by omega)).symm
 ·
  intro vs ls H19 E19 st hE
  have f20 : x < 1 := dt st 0
  refine res_ex (by kernel_rfl) (end_flat st.inn hE (.inr rfl) (a := .bool false) (by kernel_rfl) (Grew.trans (Grew.refl _) (gk st)) rfl ⟨?_, rfl⟩)
  exact congrArg AV.bool (decide_eq_false (by omega)).symm
theorem k_l07Ok (H : AHeap) (lg : Nat) (x y : Int) (ms : List (List AV)) (hr : Recs KB ms) (S : AV) (hS : SlL H 1 ms S) (hmx : ms.length < 2 ^ 40) (hg : H.get lg = some (.row [.int .i64 x, .int .i64 y, S] true)) : APure Try.prog 68 [.ptr lg 0] H (.bool (okGr x y ms)) := by
 refine res_start h_spec_l07Ok (by simp) ?_
 have q1 : KdsL [.one, KI, KI, KI] [S, .int .i64 x, .int .i64 y, .int .i64 (ms.length : Int)] := .cons (slOne hS) (.cons ⟨_, rfl⟩ (.cons ⟨_, rfl⟩ (.cons ⟨_, rfl⟩ .nil)))
 refine run_mc (φ := φ0) (pm := pmR 1 [(.len (n1 0), nI 3)] 6) 20 (ws := [⟨lg, 0, [nI 1, nI 2, n1 0], false⟩]) (env := [(0, .ptr 0 0)]) q1 (.cons (wR hg q1) .nil) (sepOk_ro rfl) (.cons (⟨_, _, (dE q1), (dE q1), slLen hS⟩) .nil) (eC q1 (.cons (t := 0) rfl .nil)) tb_ok ap_ok ?_
 refine all5 (by kernel_rfl) ?_ ?_ ?_ ?_ ?_
 ·
  intro vs ls H2 E2 st hE
  have f3 : ¬ (24 < y) := df st 0
  have f4 : ¬ (y < 1) := df st 1
  have f5 : ¬ (24 < x) := df st 2
  have f6 : ¬ (x < 1) := df st 3
  refine res_ex (by kernel_rfl) (end_flat st.inn hE (.inr rfl) (a := .bool (decide ((ms.length : Int) = (IntKind.wrap .i64 (x * y))))) (by kernel_rfl) (Grew.trans (Grew.refl _) (gk st)) rfl ⟨?_, rfl⟩)
  have hb1 : 0 ≤ x * y := Int.mul_nonneg (by omega) (by omega)
  have hb2 : x * y ≤ 24 * 24 := Int.mul_le_mul (by omega) (by omega) (by omega) (by omega)
  rw [wrap_i64 (by omega) (by omega)]; unfold okGr; congr 1; rw [decide_eq_decide]; omega
 ·
  intro vs ls H7 E7 st hE
  have f8 : 24 < y := dt st 0
  have f9 : ¬ (y < 1) := df st 1
  have f10 : ¬ (24 < x) := df st 2
  have f11 : ¬ (x < 1) := df st 3
  refine res_ex (by kernel_rfl) (end_flat st.inn hE (.inr rfl) (a := .bool false) (by kernel_rfl) (Grew.trans (Grew.refl _) (gk st)) rfl ⟨?_, rfl⟩)
  exact congrArg AV.bool (decide_eq_false (by omega)).symm
 ·
  intro vs ls H12 E12 st hE
  have f13 : y < 1 := dt st 0
  have f14 : ¬ (24 < x) := df st 1
  have f15 : ¬ (x < 1) := df st 2
  refine res_ex (by kernel_rfl) (end_flat st.inn hE (.inr rfl) (a := .bool false) (by kernel_rfl) (Grew.trans (Grew.refl _) (gk st)) rfl ⟨?_, rfl⟩)
  exact congrArg AV.bool (decide_eq_false (by omega)).symm
 ·
  intro vs ls H16 E16 st hE
  have f17 : 24 < x := dt st 0
  have f18 : ¬ (x < 1) := df st 1
  refine res_ex (by kernel_rfl) (end_flat st.inn hE (.inr rfl) (a := .bool false) (by kernel_rfl) (Grew.trans (Grew.refl _) (gk st)) rfl ⟨?_, rfl⟩)
  exact congrArg AV.bool (decide_eq_false (by omega)).symm
 ·
  intro vs ls H19 E19 st hE
  have f20 : x < 1 := dt st 0
  refine res_ex (by kernel_rfl) (end_flat st.inn hE (.inr rfl) (a := .bool false) (by kernel_rfl) (Grew.trans (Grew.refl _) (gk st)) rfl ⟨?_, rfl⟩)
  exact congrArg AV.bool (decide_eq_false (by omega)).symm
theorem k_impl_GridText (H : AHeap) (x y : Int) (ms : List (List AV)) (hr : Recs KB ms) (S : AV) (hS : SlL H 1 ms S) (hmx : ms.length < 2 ^ 40) : ACalls Try.prog 31 [.agg [.int .i64 x, .int .i64 y, S]] H fun r H' => r = .str (gridS x y ms) ∧ Grew H H' := by
 refine res_start h_impl_GridText (by simp) ?_
 have q1 : KdsL [.one, KI, KI, .bool, KI] [S, .int .i64 x, .int .i64 y, .bool (okGr x y ms), .int .i64 (ms.length : Int)] := .cons (slOne hS) (.cons ⟨_, rfl⟩ (.cons ⟨_, rfl⟩ (.cons ⟨_, rfl⟩ (.cons ⟨_, rfl⟩ .nil))))
 refine run_mc (φ := φ0) (pm := pmR 0 [(.call 16 [.agg [nI 1, nI 2, n1 0]], nB 3), (.len (n1 0), nI 4)] 0) 20 (ws := []) (env := [(0, .agg [nI 1, nI 2, n1 0])]) q1 .nil (sepOk_ro rfl) (.cons (rule_call (args := [.agg [.int .i64 x, .int .i64 y, S]]) (dL q1) (dE q1) (fun H9 hk => k_impl_ValidGrid H9 x y ms hr S (hS.grew (Grew.trans (Grew.refl _) (hk.grew (Nat.le_refl _)))) hmx)) (.cons (⟨_, _, (dE q1), (dE q1), slLen hS⟩) .nil)) (eC q1 (.cons (t := 0) rfl .nil)) tb_ok ap_ok ?_
 refine all2 (by kernel_rfl) ?_ ?_
 ·
  intro vs ls H2 E2 st hE
  have f3 : (okGr x y ms) = false := bf st 0
  have gz : Grew H H2 := (Grew.trans (Grew.refl _) (gk st))
  exact res_ex (by kernel_rfl) (end_same st.inn hE (.inr rfl) (a := .str []) (by kernel_rfl) gz.next ⟨by unfold gridS; rw [f3]; rfl, gz⟩)
 ·
  intro vs ls H4 E4 st hE
  have f5 : (okGr x y ms) = true := bf st 0
  obtain ⟨hx1, hx2, hy1, hy2, hxy, hml⟩ := okGr_facts f5
  obtain ⟨p6, e7, r8, n9⟩ := sl_of st.inn hE 3 1 0 0 1 (by kernel_rfl) (ds := []) (by kernel_rfl)
  have op6 : H.next ≤ p6 := Nat.le_trans (Nat.le_refl _) (n9 (Nat.le_of_ble_eq_true rfl))
  obtain ⟨p10, e11, r12, n13⟩ := ptr_of st.inn hE 1 0 (by kernel_rfl) (ds := [.int .i64 x, .int .i64 y, S]) (by kernel_rfl)
  have op10 : H.next ≤ p10 := Nat.le_trans (Nat.le_refl _) (n13 (Nat.le_of_ble_eq_true rfl))
  have ne14 : Apart p6 p10 := ⟨row_ne st.inn hE 3 1 1 0 (v := .sl 1 0 0 0 1) (v' := .ptr 0 0) (by kernel_rfl) (by kernel_rfl) rfl rfl (cs := []) (by kernel_rfl) (by decide) e7 e11 rfl rfl⟩
  have b15 := eo st hE 13 (.int .i64 0)
  have b16 := eo st hE 12 (.int .i64 (ms.length : Int))
  have b17 := eo st hE 11 S
  have g18 : Grew H H4 := (gk st)
  have g19 : Grew H H4 := Grew.trans (Grew.refl _) g18
  clear st hE vs ls
  refine res_loop (by kernel_rfl) (fun z E H' => ∃ (i : Nat) (acc20_0 : AV), z + i = ms.length ∧ E 12 = .int .i64 (ms.length : Int) ∧ E 11 = S ∧ E 1 = .ptr p10 0 ∧ E 13 = .int .i64 (i : Int) ∧ E 3 = acc20_0 ∧ Grew H H' ∧ H'.get p10 = some (.row [.int .i64 x, .int .i64 y, S] true) ∧ SlF H' 1 (gridT x ms i) acc20_0 ∧ FreshS H.next acc20_0 ∧ ApartL acc20_0 p10) (ms.length) ⟨0, .slice p6 0 0 0 1, by omega, b16, b17, e11, b15, e7, g19, r12, (.sl (by simpa [gridT] using r8) rfl (Nat.le_refl _)), (FreshS.of_le op6), (ApartL.of (by first | assumption | exact Apart.symm (by assumption)))⟩ ?_
  rintro z20 Ei20 Hi20 ⟨i20, acc20_0, hz20, c20_12, c20_11, c20_1, ci20, ca20_0, gt20, r20_1, s20_0, f20_0, ap20_0_1⟩
  have hln20_0 : ((gridT x ms i20)).length ≤ 2 * i20 := gridT_len _ _ _
  have q21 := q1.app (.cons ⟨_, rfl⟩ (.cons s20_0.one .nil) : KdsL [KI, .one] [.int .i64 (i20 : Int), acc20_0])
  refine run_mc (φ := φ0) (pm := pmR 1 [] 0) 20 (ws := [⟨p10, 0, [nI 1, nI 2, n1 0], false⟩]) (env := [(12, nI 4), (11, n1 0), (1, .ptr 0 0), (13, nI 5), (3, n1 6)]) q21 (.cons (wR r20_1 q21) .nil) (sepOk_ro rfl) .nil (eC q21 (.cons c20_12 (.cons c20_11 (.cons c20_1 (.cons ci20 (.cons ca20_0 .nil)))))) tb_ok ap_ok ?_
  refine all2 (by kernel_rfl) ?_ ?_
  ·
   intro vs ls H22 E22 st hE
   have f23 : (i20 : Int) < (ms.length : Int) := dt st 0
   have b24 := eo st hE 11 S
   have b25 := eo st hE 13 (.int .i64 (i20 : Int))
   have b26 := eo st hE 15 (.int .i64 (i20 : Int))
   have b27 := eo st hE 3 acc20_0
   have b28 := eo st hE 1 (.ptr p10 0)
   have b29 := eo st hE 12 (.int .i64 (ms.length : Int))
   have g30 : Grew Hi20 H22 := (gk st)
   have g31 : Grew H H22 := Grew.trans gt20 g30
   have r32 := g30.at r20_1
   have s33 := s20_0.grew g30
   clear st hE vs ls
   have hlt34 : i20 < ms.length := by omega
   obtain ⟨lS34, cap34, rest34, wr34, eS34, gB34⟩ := hS.isSl hlt34
   have gS34 := g31.at gB34
   have ne35 := apn gB34 op10
   obtain ⟨v34_0, hm34⟩ := partsByte (hr.get hlt34)
   have he34 : ms.getD i20 [] = [.int .u8 v34_0] := by rw [← hm34, List.getD_eq_getElem?_getD, List.getElem?_eq_getElem hlt34]; rfl
   have q36 := q21.app (.cons ⟨_, rfl⟩ (.cons ⟨_, rfl⟩ .nil) : KdsL [.int .u8, .int .u8] [.int .u8 v34_0, .int .u8 (signX v34_0)])
   refine run_mc (φ := φ0) (pm := pmR 2 [(.ia 1 (n1 0) (nI 5), .ptr 1 0), (.call 77 [.nd 7 (.int .u8)], .nd 8 (.int .u8))] 0) 20 (ws := [⟨p10, 0, [nI 1, nI 2, n1 0], false⟩, ⟨lS34, (i20 * 1), [.nd 7 (.int .u8)], false⟩]) (env := [(11, n1 0), (13, nI 5), (15, nI 5), (3, n1 6), (1, .ptr 0 0), (12, nI 4)]) q36 (.cons (wR r32 q36) (.cons (win_elem hr gS34 hlt34 rfl (by rw [hm34]; exact (dL q36))) .nil)) (sepOk_ro rfl) (.cons (rule_iaS (k := i20) (dE q36) eS34 (dE q36) hlt34 rfl) (.cons (rule_call (args := [.int .u8 v34_0]) (dL q36) (dE q36) (fun H9 hk => k_costLetter H9 v34_0)) .nil)) (eC q36 (.cons b24 (.cons b25 (.cons b26 (.cons b27 (.cons b28 (.cons b29 .nil))))))) tb_ok ap_ok ?_
   refine all1 (by kernel_rfl) ?_
   intro vs ls H37 E37 st hE
   obtain ⟨p38, e39, r40, n41⟩ := sl_of st.inn hE 21 2 1 1 1 (by kernel_rfl) (ds := [.int .u8 (signX v34_0)]) (by kernel_rfl)
   have op38 : H.next ≤ p38 := Nat.le_trans g31.next (n41 (Nat.le_of_ble_eq_true rfl))
   have ne42 := apn r32 (n41 (Nat.le_of_ble_eq_true rfl))
   have ne43 := apn gS34 (n41 (Nat.le_of_ble_eq_true rfl))
   have ne44 : ApartL (acc20_0) p38 := s33.apart_new (n41 (Nat.le_of_ble_eq_true rfl))
   have b45 := eo st hE 18 acc20_0
   have b46 := eo st hE 4 (.int .i64 (i20 : Int))
   have b47 := eo st hE 1 (.ptr p10 0)
   have b48 := eo st hE 3 acc20_0
   have b49 := eo st hE 13 (.int .i64 (i20 : Int))
   have b50 := eo st hE 12 (.int .i64 (ms.length : Int))
   have b51 := eo st hE 11 S
   have g52 : Grew H22 H37 := (gk st)
   have g53 : Grew H H37 := Grew.trans g31 g52
   have r54 := g52.at r32
   have s56 := s33.grew g52
   clear st hE vs ls
   refine res_append (d := (some 22)) (sz := 1) (bytes := 1) (x := .tmp 18) (y := .tmp 21) (by kernel_rfl) (S := acc20_0) (ms := (gridT x ms i20)) (ys := [[.int .u8 (signX v34_0)]]) (by show E37 18 = _; exact b45) s56 (gridT_recs x ms i20).len (by show srcCells _ _ (E37 21) = _; rw [e39]; exact src_one r40 rfl) (recs_one (ks := KB) (Recs.one (ks := KB) (.cons ⟨_, rfl⟩ .nil)) rfl) (by simp only [List.length_append, List.length_cons, List.length_nil]; omega) ?_
   intro S57 H58 sS57 fS57 oS57
   have ne59 : ApartL (S57) p10 := fS57.apartL (H37.lt_of_get r54) (by assumption)
   have ne60 : ApartL (S57) p38 := fS57.apartL (H37.lt_of_get r40) (by assumption)
   have fr61 : FreshS H.next (S57) := fS57.fresh f20_0 g53.next
   have g62 : Grew H H58 := OnlyS.own g53 f20_0 oS57
   have r63 := oS57.at r54 (by assumption)
   have r64 := oS57.at r40 (by assumption)
   have q65 := q36.app (.cons sS57.one .nil : KdsL [.one] [S57])
   refine run_mc (φ := φ0) (pm := pmR 2 [] 0) 20 (ws := [⟨p10, 0, [nI 1, nI 2, n1 0], false⟩, ⟨p38, 0, [.nd 8 (.int .u8)], false⟩]) (env := [(18, n1 6), (21, .sl 1 0 1 1 1), (4, nI 5), (1, .ptr 0 0), (3, n1 6), (13, nI 5), (12, nI 4), (11, n1 0), (22, n1 9)]) q65 (.cons (wR r63 q65) (.cons (wR r64 q65) .nil)) (sepOk_ro rfl) .nil (eC q65 (.cons (put_ne rfl b45) (.cons (put_ne rfl e39) (.cons (put_ne rfl b46) (.cons (put_ne rfl b47) (.cons (put_ne rfl b48) (.cons (put_ne rfl b49) (.cons (put_ne rfl b50) (.cons (put_ne rfl b51) (.cons put_same .nil)))))))))) tb_ok ap_ok ?_
   refine all1 (by kernel_rfl) ?_
   intro vs ls H66 E66 st hE
   obtain ⟨w67, hw67⟩ : ∃ z, z = (IntKind.wrap .i64 ((i20 : Int) + 1)) := ⟨_, rfl⟩
   have b68 : E66 24 = .int .i64 w67 := by rw [hw67]; exact eo st hE 24 _
   have b69 := eo st hE 26 (.int .i64 x)
   have b70 := eo st hE 3 S57
   have b71 := eo st hE 13 (.int .i64 (i20 : Int))
   have b72 := eo st hE 12 (.int .i64 (ms.length : Int))
   have b73 := eo st hE 11 S
   have b74 := eo st hE 1 (.ptr p10 0)
   have g75 : Grew H58 H66 := (gk st)
   have g76 : Grew H H66 := Grew.trans g62 g75
   have r77 := g75.at r63
   have s79 := sS57.grew g75
   clear st hE vs ls
   refine res_bin (d := some 27) (b := .rem) (x := .tmp 24) (y := .tmp 26) (r := .int .i64 (Int.tmod w67 x)) (by kernel_rfl) (rem_val b68 b69 (by omega)) ?_
   have q80 := q65.app (.cons ⟨_, rfl⟩ (.cons ⟨_, rfl⟩ .nil) : KdsL [KI, KI] [.int .i64 w67, .int .i64 (Int.tmod w67 x)])
   refine run_mc (φ := φ0) (pm := pmR 1 [] 0) 20 (ws := [⟨p10, 0, [nI 1, nI 2, n1 0], false⟩]) (env := [(24, nI 10), (26, nI 1), (3, n1 9), (13, nI 5), (12, nI 4), (11, n1 0), (1, .ptr 0 0), (27, nI 11)]) q80 (.cons (wR r77 q80) .nil) (sepOk_ro rfl) .nil (eC q80 (.cons (put_ne rfl b68) (.cons (put_ne rfl b69) (.cons (put_ne rfl b70) (.cons (put_ne rfl b71) (.cons (put_ne rfl b72) (.cons (put_ne rfl b73) (.cons (put_ne rfl b74) (.cons put_same .nil))))))))) tb_ok ap_ok ?_
   refine all2 (by kernel_rfl) ?_ ?_
   ·
    intro vs ls H81 E81 st hE
    have f82 : (Int.tmod w67 x) = 0 := dt st 0
    obtain ⟨p83, e84, r85, n86⟩ := sl_of st.inn hE 30 1 1 1 1 (by kernel_rfl) (ds := [.int .u8 10]) (by kernel_rfl)
    have op83 : H.next ≤ p83 := Nat.le_trans g76.next (n86 (Nat.le_of_ble_eq_true rfl))
    have ne87 := apn r77 (n86 (Nat.le_of_ble_eq_true rfl))
    have ne88 : ApartL (S57) p83 := s79.apart_new (n86 (Nat.le_of_ble_eq_true rfl))
    have b89 := eo st hE 29 S57
    have b90 := eo st hE 13 (.int .i64 (i20 : Int))
    have b91 := eo st hE 12 (.int .i64 (ms.length : Int))
    have b92 := eo st hE 11 S
    have b93 := eo st hE 1 (.ptr p10 0)
    have b94 := eo st hE 3 S57
    have g95 : Grew H66 H81 := (gk st)
    have g96 : Grew H H81 := Grew.trans g76 g95
    have r97 := g95.at r77
    have s98 := s79.grew g95
    clear st hE vs ls
    refine res_append (d := (some 31)) (sz := 1) (bytes := 1) (x := .tmp 29) (y := .tmp 30) (by kernel_rfl) (S := S57) (ms := ((gridT x ms i20) ++ [[.int .u8 (signX v34_0)]])) (ys := [[.int .u8 10]]) (by show E81 29 = _; exact b89) s98 (Recs.append (gridT_recs x ms i20) (Recs.one (ks := KB) (.cons ⟨_, rfl⟩ .nil))).len (by show srcCells _ _ (E81 30) = _; rw [e84]; exact src_one r85 rfl) (recs_one (ks := KB) (Recs.one (ks := KB) (.cons ⟨_, rfl⟩ .nil)) rfl) (by simp only [List.length_append, List.length_cons, List.length_nil]; omega) ?_
    intro S99 H100 sS99 fS99 oS99
    have ne101 : ApartL (S99) p10 := fS99.apartL (H81.lt_of_get r97) (by assumption)
    have ne102 : ApartL (S99) p83 := fS99.apartL (H81.lt_of_get r85) (by assumption)
    have fr103 : FreshS H.next (S99) := fS99.fresh fr61 g96.next
    have g104 : Grew H H100 := OnlyS.own g96 fr61 oS99
    have r105 := oS99.at r97 (by assumption)
    have r106 := oS99.at r85 (by assumption)
    have q107 := q80.app (.cons sS99.one .nil : KdsL [.one] [S99])
    refine run_mc (φ := φ0) (pm := pmR 2 [] 0) 20 (ws := [⟨p10, 0, [nI 1, nI 2, n1 0], false⟩, ⟨p83, 0, [.lit (.int .u8 10)], false⟩]) (env := [(29, n1 9), (30, .sl 1 0 1 1 1), (13, nI 5), (12, nI 4), (11, n1 0), (1, .ptr 0 0), (3, n1 9), (31, n1 12)]) q107 (.cons (wR r105 q107) (.cons (wR r106 q107) .nil)) (sepOk_ro rfl) .nil (eC q107 (.cons (put_ne rfl b89) (.cons (put_ne rfl e84) (.cons (put_ne rfl b90) (.cons (put_ne rfl b91) (.cons (put_ne rfl b92) (.cons (put_ne rfl b93) (.cons (put_ne rfl b94) (.cons put_same .nil))))))))) tb_ok ap_ok ?_
    refine all1 (by kernel_rfl) ?_
    intro vs ls H108 E108 st hE
    obtain ⟨w109, hw109⟩ : ∃ z, z = (IntKind.wrap .i64 ((i20 : Int) + 1)) := ⟨_, rfl⟩
    have b110 : E108 13 = .int .i64 w109 := by rw [hw109]; exact eo st hE 13 _
    have b111 := eo st hE 12 (.int .i64 (ms.length : Int))
    have b112 := eo st hE 11 S
    have b113 := eo st hE 1 (.ptr p10 0)
    have b114 := eo st hE 3 S99
    have g115 : Grew H100 H108 := (gk st)
    have g116 : Grew H H108 := Grew.trans g104 g115
    have r117 := g115.at r105
    have s119 := sS99.grew g115
    clear st hE vs ls
    have hz9 : z20 - 1 < z20 := by omega
    have hy9 : z20 - 1 + (i20 + 1) = ms.length := by omega
    have hi9 : E108 13 = .int .i64 ((i20 + 1 : Nat) : Int) := by rw [b110, hw109, wrap64 (by omega)]
    have hs9 : gridT x ms (i20 + 1) = (((gridT x ms i20) ++ [[.int .u8 (signX v34_0)]]) ++ [[.int .u8 10]]) := by
     have hw9 : IntKind.i64.wrap ((i20 : Int) + 1) = (i20 : Int) + 1 := wrap_i64 (by omega) (by omega)
     have hp9 := f82
     rw [hw67, hw9] at hp9
     exact gridT_two hp9 he34
    exact res_norm (by kernel_rfl) ⟨z20 - 1, hz9, i20 + 1, S99, hy9, b111, b112, b113, hi9, b114, g116, r117, (by rw [hs9]; exact s119), fr103, (by assumption)⟩
   ·
    intro vs ls H120 E120 st hE
    have f121 : ¬ ((Int.tmod w67 x) = 0) := df st 0
    obtain ⟨w122, hw122⟩ : ∃ z, z = (IntKind.wrap .i64 ((i20 : Int) + 1)) := ⟨_, rfl⟩
    have b123 : E120 13 = .int .i64 w122 := by rw [hw122]; exact eo st hE 13 _
    have b124 := eo st hE 12 (.int .i64 (ms.length : Int))
    have b125 := eo st hE 11 S
    have b126 := eo st hE 1 (.ptr p10 0)
    have b127 := eo st hE 3 S57
    have g128 : Grew H66 H120 := (gk st)
    have g129 : Grew H H120 := Grew.trans g76 g128
    have r130 := g128.at r77
    have s131 := s79.grew g128
    clear st hE vs ls
    have hz9 : z20 - 1 < z20 := by omega
    have hy9 : z20 - 1 + (i20 + 1) = ms.length := by omega
    have hi9 : E120 13 = .int .i64 ((i20 + 1 : Nat) : Int) := by rw [b123, hw122, wrap64 (by omega)]
    have hs9 : gridT x ms (i20 + 1) = ((gridT x ms i20) ++ [[.int .u8 (signX v34_0)]]) := by
     have hw9 : IntKind.i64.wrap ((i20 : Int) + 1) = (i20 : Int) + 1 := wrap_i64 (by omega) (by omega)
     have hp9 := f121
     rw [hw67, hw9] at hp9
     exact gridT_one hp9 he34
    exact res_norm (by kernel_rfl) ⟨z20 - 1, hz9, i20 + 1, S57, hy9, b124, b125, b126, hi9, b127, g129, r130, (by rw [hs9]; exact s131), fr61, (by assumption)⟩
  ·
   intro vs ls H132 E132 st hE
   have f133 : ¬ ((i20 : Int) < (ms.length : Int)) := df st 0
   have b134 := eo st hE 13 (.int .i64 (i20 : Int))
   have b135 := eo st hE 12 (.int .i64 (ms.length : Int))
   obtain ⟨w136, hw136⟩ : ∃ z, z = (decide ((i20 : Int) < (ms.length : Int))) := ⟨_, rfl⟩
   have b137 : E132 14 = .bool w136 := by rw [hw136]; exact eo st hE 14 _
   have b138 := eo st hE 11 S
   have b139 := eo st hE 3 acc20_0
   have b140 := eo st hE 1 (.ptr p10 0)
   have g141 : Grew Hi20 H132 := (gk st)
   have g142 : Grew H H132 := Grew.trans gt20 g141
   have r143 := g141.at r20_1
   have s144 := s20_0.grew g141
   clear st hE vs ls
   refine res_exit (id := 0) (by kernel_rfl) ?_
   have q145 := q21.app (.cons ⟨_, rfl⟩ .nil : KdsL [.bool] [.bool w136])
   refine run_mc (φ := φ0) (pm := pmR 1 [] 0) 20 (ws := [⟨p10, 0, [nI 1, nI 2, n1 0], false⟩]) (env := [(13, nI 5), (12, nI 4), (14, nB 7), (11, n1 0), (3, n1 6), (1, .ptr 0 0)]) q145 (.cons (wR r143 q145) .nil) (sepOk_ro rfl) .nil (eC q145 (.cons b134 (.cons b135 (.cons b137 (.cons b138 (.cons b139 (.cons b140 .nil))))))) tb_ok ap_ok ?_
   refine all1 (by kernel_rfl) ?_
   intro vs ls H146 E146 st hE
   have b147 := eo st hE 33 acc20_0
   have g148 : Grew H132 H146 := (gk st)
   have g149 : Grew H H146 := Grew.trans g142 g148
   have s151 := s144.grew g148
   clear st hE vs ls
   refine res_conv (d := some 34) (c := .bs) (x := .tmp 33) (r := (.str (strOf (gridT x ms i20)))) (by kernel_rfl) (conv_bs (H := H146) (gridT_recs x ms i20) s151.toL b147) ?_
   have q152 := q145.app (.cons ⟨_, rfl⟩ .nil : KdsL [.str] [.str (strOf (gridT x ms i20))])
   refine run_mc (φ := φ0) (pm := pmR 0 [] 0) 20 (ws := []) (env := [(33, n1 6), (34, .nd 8 .str)]) q152 .nil (sepOk_ro rfl) .nil (eC q152 (.cons (put_ne rfl b147) (.cons put_same .nil))) tb_ok ap_ok ?_
   refine all1 (by kernel_rfl) ?_
   intro vs ls H153 E153 st hE
   have gz : Grew H H153 := (Grew.trans g149 (gk st))
   exact res_ex (by kernel_rfl) (end_same st.inn hE (.inr rfl) (a := .str (strOf (gridT x ms i20))) (by kernel_rfl) gz.next ⟨by unfold gridS; rw [if_pos f5, show ms.length = i20 by omega], gz⟩)
-- SPEC
theorem k_l07Text (H : AHeap) (lg : Nat) (x y : Int) (ms : List (List AV)) (hr : Recs KB ms) (S : AV) (hS : SlL H 1 ms S) (hmx : ms.length < 2 ^ 40) (hok : okGr x y ms = true) (hg : H.get lg = some (.row [.int .i64 x, .int .i64 y, S] true)) : ACalls Try.prog 76 [.ptr lg 0] H fun r H' => r = .str (gridS x y ms) ∧ Grew H H' := by
 refine res_start h_spec_l07Text (by simp) ?_
 obtain ⟨hx1, hx2, hy1, hy2, hxy, hml⟩ := okGr_facts hok
 have q1 : KdsL [.one, KI, KI] [S, .int .i64 x, .int .i64 y] := .cons (slOne hS) (.cons ⟨_, rfl⟩ (.cons ⟨_, rfl⟩ .nil))
 refine run_mc (φ := φ0) (pm := pmR 1 [] 0) 20 (ws := [⟨lg, 0, [nI 1, nI 2, n1 0], false⟩]) (env := [(0, .ptr 0 0)]) q1 (.cons (wR hg q1) .nil) (sepOk_ro rfl) .nil (eC q1 (.cons (t := 0) rfl .nil)) tb_ok ap_ok ?_
 refine all1 (by kernel_rfl) ?_
 intro vs ls H2 E2 st hE
 obtain ⟨p3, e4, r5, n6⟩ := sl_of st.inn hE 3 1 0 0 1 (by kernel_rfl) (ds := []) (by kernel_rfl)
 have op3 : H.next ≤ p3 := Nat.le_trans (Nat.le_refl _) (n6 (Nat.le_of_ble_eq_true rfl))
 have ne7 := apn hg (n6 (Nat.le_of_ble_eq_true rfl))
 have b8 := eo st hE 4 (.int .i64 0)
 have b9 := eo st hE 0 (.ptr lg 0)
 have g10 : Grew H H2 := (gk st)
 have g11 : Grew H H2 := Grew.trans (Grew.refl _) g10
 have r12 := g10.at hg
 clear st hE vs ls
 refine res_loop (by kernel_rfl) (fun z E H' => ∃ (i : Nat) (acc13_0 : AV), z + i = ms.length ∧ E 0 = .ptr lg 0 ∧ E 4 = .int .i64 (i : Int) ∧ E 3 = acc13_0 ∧ Grew H H' ∧ H'.get lg = some (.row [.int .i64 x, .int .i64 y, S] true) ∧ SlF H' 1 (gridT x ms i) acc13_0 ∧ FreshS H.next acc13_0 ∧ ApartL acc13_0 lg) (ms.length) ⟨0, .slice p3 0 0 0 1, by omega, b9, b8, e4, g11, r12, (.sl (by simpa [gridT] using r5) rfl (Nat.le_refl _)), (FreshS.of_le op3), (ApartL.of (by first | assumption | exact Apart.symm (by assumption)))⟩ ?_
 rintro z13 Ei13 Hi13 ⟨i13, acc13_0, hz13, c13_0, ci13, ca13_0, gt13, r13_0, s13_0, f13_0, ap13_0_0⟩
 have hln13_0 : ((gridT x ms i13)).length ≤ 2 * i13 := gridT_len _ _ _
 have q14 := q1.app (.cons ⟨_, rfl⟩ (.cons s13_0.one (.cons ⟨_, rfl⟩ .nil)) : KdsL [KI, .one, KI] [.int .i64 (i13 : Int), acc13_0, .int .i64 (ms.length : Int)])
 refine run_mc (φ := φ0) (pm := pmR 1 [(.len (n1 0), nI 5)] 0) 20 (ws := [⟨lg, 0, [nI 1, nI 2, n1 0], false⟩]) (env := [(0, .ptr 0 0), (4, nI 3), (3, n1 4)]) q14 (.cons (wR r13_0 q14) .nil) (sepOk_ro rfl) (.cons (⟨_, _, (dE q14), (dE q14), slLen hS⟩) .nil) (eC q14 (.cons c13_0 (.cons ci13 (.cons ca13_0 .nil)))) tb_ok ap_ok ?_
 refine all2 (by kernel_rfl) ?_ ?_
 ·
  intro vs ls H15 E15 st hE
  have f16 : (i13 : Int) < (ms.length : Int) := dt st 0
  have b17 := eo st hE 19 S
  have b18 := eo st hE 20 (.int .i64 (i13 : Int))
  have b19 := eo st hE 15 acc13_0
  have b20 := eo st hE 4 (.int .i64 (i13 : Int))
  have b21 := eo st hE 0 (.ptr lg 0)
  have b22 := eo st hE 3 acc13_0
  have g23 : Grew Hi13 H15 := (gk st)
  have g24 : Grew H H15 := Grew.trans gt13 g23
  have r25 := g23.at r13_0
  have s26 := s13_0.grew g23
  clear st hE vs ls
  have hlt27 : i13 < ms.length := by omega
  obtain ⟨lS27, cap27, rest27, wr27, eS27, gB27⟩ := hS.isSl hlt27
  have gS27 := g24.at gB27
  obtain ⟨v27_0, hm27⟩ := partsByte (hr.get hlt27)
  have he27 : ms.getD i13 [] = [.int .u8 v27_0] := by rw [← hm27, List.getD_eq_getElem?_getD, List.getElem?_eq_getElem hlt27]; rfl
  have q28 := q14.app (.cons ⟨_, rfl⟩ (.cons ⟨_, rfl⟩ .nil) : KdsL [.int .u8, .int .u8] [.int .u8 v27_0, .int .u8 (signX v27_0)])
  refine run_mc (φ := φ0) (pm := pmR 2 [(.ia 1 (n1 0) (nI 3), .ptr 1 0), (.call 114 [.nd 6 (.int .u8)], .nd 7 (.int .u8))] 0) 20 (ws := [⟨lg, 0, [nI 1, nI 2, n1 0], false⟩, ⟨lS27, (i13 * 1), [.nd 6 (.int .u8)], false⟩]) (env := [(19, n1 0), (20, nI 3), (15, n1 4), (4, nI 3), (0, .ptr 0 0), (3, n1 4)]) q28 (.cons (wR r25 q28) (.cons (win_elem hr gS27 hlt27 rfl (by rw [hm27]; exact (dL q28))) .nil)) (sepOk_ro rfl) (.cons (rule_iaS (k := i13) (dE q28) eS27 (dE q28) hlt27 rfl) (.cons (rule_call (args := [.int .u8 v27_0]) (dL q28) (dE q28) (fun H9 hk => k_l07Sign H9 v27_0)) .nil)) (eC q28 (.cons b17 (.cons b18 (.cons b19 (.cons b20 (.cons b21 (.cons b22 .nil))))))) tb_ok ap_ok ?_
  refine all1 (by kernel_rfl) ?_
  intro vs ls H29 E29 st hE
  obtain ⟨p30, e31, r32, n33⟩ := sl_of st.inn hE 24 2 1 1 1 (by kernel_rfl) (ds := [.int .u8 (signX v27_0)]) (by kernel_rfl)
  have op30 : H.next ≤ p30 := Nat.le_trans g24.next (n33 (Nat.le_of_ble_eq_true rfl))
  have ne34 := apn r25 (n33 (Nat.le_of_ble_eq_true rfl))
  have ne35 := apn gS27 (n33 (Nat.le_of_ble_eq_true rfl))
  have ne36 : ApartL (acc13_0) p30 := s26.apart_new (n33 (Nat.le_of_ble_eq_true rfl))
  have b37 := eo st hE 15 acc13_0
  have b38 := eo st hE 4 (.int .i64 (i13 : Int))
  have b39 := eo st hE 0 (.ptr lg 0)
  have b40 := eo st hE 3 acc13_0
  have g41 : Grew H15 H29 := (gk st)
  have g42 : Grew H H29 := Grew.trans g24 g41
  have r43 := g41.at r25
  have s45 := s26.grew g41
  clear st hE vs ls
  refine res_append (d := (some 25)) (sz := 1) (bytes := 1) (x := .tmp 15) (y := .tmp 24) (by kernel_rfl) (S := acc13_0) (ms := (gridT x ms i13)) (ys := [[.int .u8 (signX v27_0)]]) (by show E29 15 = _; exact b37) s45 (gridT_recs x ms i13).len (by show srcCells _ _ (E29 24) = _; rw [e31]; exact src_one r32 rfl) (recs_one (ks := KB) (Recs.one (ks := KB) (.cons ⟨_, rfl⟩ .nil)) rfl) (by simp only [List.length_append, List.length_cons, List.length_nil]; omega) ?_
  intro S46 H47 sS46 fS46 oS46
  have ne48 : ApartL (S46) lg := fS46.apartL (H29.lt_of_get r43) (by assumption)
  have ne49 : ApartL (S46) p30 := fS46.apartL (H29.lt_of_get r32) (by assumption)
  have fr50 : FreshS H.next (S46) := fS46.fresh f13_0 g42.next
  have g51 : Grew H H47 := OnlyS.own g42 f13_0 oS46
  have r52 := oS46.at r43 (by assumption)
  have r53 := oS46.at r32 (by assumption)
  have q54 := q28.app (.cons sS46.one .nil : KdsL [.one] [S46])
  refine run_mc (φ := φ0) (pm := pmR 2 [] 0) 20 (ws := [⟨lg, 0, [nI 1, nI 2, n1 0], false⟩, ⟨p30, 0, [.nd 7 (.int .u8)], false⟩]) (env := [(15, n1 4), (24, .sl 1 0 1 1 1), (4, nI 3), (0, .ptr 0 0), (3, n1 4), (25, n1 8)]) q54 (.cons (wR r52 q54) (.cons (wR r53 q54) .nil)) (sepOk_ro rfl) .nil (eC q54 (.cons (put_ne rfl b37) (.cons (put_ne rfl e31) (.cons (put_ne rfl b38) (.cons (put_ne rfl b39) (.cons (put_ne rfl b40) (.cons put_same .nil))))))) tb_ok ap_ok ?_
  refine all1 (by kernel_rfl) ?_
  intro vs ls H55 E55 st hE
  obtain ⟨w56, hw56⟩ : ∃ z, z = (IntKind.wrap .i64 ((i13 : Int) + 1)) := ⟨_, rfl⟩
  have b57 : E55 27 = .int .i64 w56 := by rw [hw56]; exact eo st hE 27 _
  have b58 := eo st hE 31 (.int .i64 x)
  have b59 := eo st hE 3 S46
  have b60 := eo st hE 4 (.int .i64 (i13 : Int))
  have b61 := eo st hE 0 (.ptr lg 0)
  have g62 : Grew H47 H55 := (gk st)
  have g63 : Grew H H55 := Grew.trans g51 g62
  have r64 := g62.at r52
  have s66 := sS46.grew g62
  clear st hE vs ls
  refine res_bin (d := some 32) (b := .rem) (x := .tmp 27) (y := .tmp 31) (r := .int .i64 (Int.tmod w56 x)) (by kernel_rfl) (rem_val b57 b58 (by omega)) ?_
  have q67 := q54.app (.cons ⟨_, rfl⟩ (.cons ⟨_, rfl⟩ .nil) : KdsL [KI, KI] [.int .i64 w56, .int .i64 (Int.tmod w56 x)])
  refine run_mc (φ := φ0) (pm := pmR 1 [] 0) 20 (ws := [⟨lg, 0, [nI 1, nI 2, n1 0], false⟩]) (env := [(27, nI 9), (31, nI 1), (3, n1 8), (4, nI 3), (0, .ptr 0 0), (32, nI 10)]) q67 (.cons (wR r64 q67) .nil) (sepOk_ro rfl) .nil (eC q67 (.cons (put_ne rfl b57) (.cons (put_ne rfl b58) (.cons (put_ne rfl b59) (.cons (put_ne rfl b60) (.cons (put_ne rfl b61) (.cons put_same .nil))))))) tb_ok ap_ok ?_
  refine all2 (by kernel_rfl) ?_ ?_
  ·
   intro vs ls H68 E68 st hE
   have f69 : (Int.tmod w56 x) = 0 := dt st 0
   obtain ⟨p70, e71, r72, n73⟩ := sl_of st.inn hE 35 1 1 1 1 (by kernel_rfl) (ds := [.int .u8 10]) (by kernel_rfl)
   have op70 : H.next ≤ p70 := Nat.le_trans g63.next (n73 (Nat.le_of_ble_eq_true rfl))
   have ne74 := apn r64 (n73 (Nat.le_of_ble_eq_true rfl))
   have ne75 : ApartL (S46) p70 := s66.apart_new (n73 (Nat.le_of_ble_eq_true rfl))
   have b76 := eo st hE 34 S46
   have b77 := eo st hE 4 (.int .i64 (i13 : Int))
   have b78 := eo st hE 0 (.ptr lg 0)
   have b79 := eo st hE 3 S46
   have g80 : Grew H55 H68 := (gk st)
   have g81 : Grew H H68 := Grew.trans g63 g80
   have r82 := g80.at r64
   have s83 := s66.grew g80
   clear st hE vs ls
   refine res_append (d := (some 36)) (sz := 1) (bytes := 1) (x := .tmp 34) (y := .tmp 35) (by kernel_rfl) (S := S46) (ms := ((gridT x ms i13) ++ [[.int .u8 (signX v27_0)]])) (ys := [[.int .u8 10]]) (by show E68 34 = _; exact b76) s83 (Recs.append (gridT_recs x ms i13) (Recs.one (ks := KB) (.cons ⟨_, rfl⟩ .nil))).len (by show srcCells _ _ (E68 35) = _; rw [e71]; exact src_one r72 rfl) (recs_one (ks := KB) (Recs.one (ks := KB) (.cons ⟨_, rfl⟩ .nil)) rfl) (by simp only [List.length_append, List.length_cons, List.length_nil]; omega) ?_
   intro S84 H85 sS84 fS84 oS84
   have ne86 : ApartL (S84) lg := fS84.apartL (H68.lt_of_get r82) (by assumption)
   have ne87 : ApartL (S84) p70 := fS84.apartL (H68.lt_of_get r72) (by assumption)
   have fr88 : FreshS H.next (S84) := fS84.fresh fr50 g81.next
   have g89 : Grew H H85 := OnlyS.own g81 fr50 oS84
   have r90 := oS84.at r82 (by assumption)
   have r91 := oS84.at r72 (by assumption)
   have q92 := q67.app (.cons sS84.one .nil : KdsL [.one] [S84])
   refine run_mc (φ := φ0) (pm := pmR 2 [] 0) 20 (ws := [⟨lg, 0, [nI 1, nI 2, n1 0], false⟩, ⟨p70, 0, [.lit (.int .u8 10)], false⟩]) (env := [(34, n1 8), (35, .sl 1 0 1 1 1), (4, nI 3), (0, .ptr 0 0), (3, n1 8), (36, n1 11)]) q92 (.cons (wR r90 q92) (.cons (wR r91 q92) .nil)) (sepOk_ro rfl) .nil (eC q92 (.cons (put_ne rfl b76) (.cons (put_ne rfl e71) (.cons (put_ne rfl b77) (.cons (put_ne rfl b78) (.cons (put_ne rfl b79) (.cons put_same .nil))))))) tb_ok ap_ok ?_
   refine all1 (by kernel_rfl) ?_
   intro vs ls H93 E93 st hE
   obtain ⟨w94, hw94⟩ : ∃ z, z = (IntKind.wrap .i64 ((i13 : Int) + 1)) := ⟨_, rfl⟩
   have b95 : E93 4 = .int .i64 w94 := by rw [hw94]; exact eo st hE 4 _
   have b96 := eo st hE 0 (.ptr lg 0)
   have b97 := eo st hE 3 S84
   have g98 : Grew H85 H93 := (gk st)
   have g99 : Grew H H93 := Grew.trans g89 g98
   have r100 := g98.at r90
   have s102 := sS84.grew g98
   clear st hE vs ls
   have hz9 : z13 - 1 < z13 := by omega
   have hy9 : z13 - 1 + (i13 + 1) = ms.length := by omega
   have hi9 : E93 4 = .int .i64 ((i13 + 1 : Nat) : Int) := by rw [b95, hw94, wrap64 (by omega)]
   have hs9 : gridT x ms (i13 + 1) = (((gridT x ms i13) ++ [[.int .u8 (signX v27_0)]]) ++ [[.int .u8 10]]) := by
    have hw9 : IntKind.i64.wrap ((i13 : Int) + 1) = (i13 : Int) + 1 := wrap_i64 (by omega) (by omega)
    have hp9 := f69
    rw [hw56, hw9] at hp9
    exact gridT_two hp9 he27
   exact res_norm (by kernel_rfl) ⟨z13 - 1, hz9, i13 + 1, S84, hy9, b96, hi9, b97, g99, r100, (by rw [hs9]; exact s102), fr88, (by assumption)⟩
  ·
   intro vs ls H103 E103 st hE
   have f104 : ¬ ((Int.tmod w56 x) = 0) := df st 0
   obtain ⟨w105, hw105⟩ : ∃ z, z = (IntKind.wrap .i64 ((i13 : Int) + 1)) := ⟨_, rfl⟩
   have b106 : E103 4 = .int .i64 w105 := by rw [hw105]; exact eo st hE 4 _
   have b107 := eo st hE 0 (.ptr lg 0)
   have b108 := eo st hE 3 S46
   have g109 : Grew H55 H103 := (gk st)
   have g110 : Grew H H103 := Grew.trans g63 g109
   have r111 := g109.at r64
   have s112 := s66.grew g109
   clear st hE vs ls
   have hz9 : z13 - 1 < z13 := by omega
   have hy9 : z13 - 1 + (i13 + 1) = ms.length := by omega
   have hi9 : E103 4 = .int .i64 ((i13 + 1 : Nat) : Int) := by rw [b106, hw105, wrap64 (by omega)]
   have hs9 : gridT x ms (i13 + 1) = ((gridT x ms i13) ++ [[.int .u8 (signX v27_0)]]) := by
    have hw9 : IntKind.i64.wrap ((i13 : Int) + 1) = (i13 : Int) + 1 := wrap_i64 (by omega) (by omega)
    have hp9 := f104
    rw [hw56, hw9] at hp9
    exact gridT_one hp9 he27
   exact res_norm (by kernel_rfl) ⟨z13 - 1, hz9, i13 + 1, S46, hy9, b107, hi9, b108, g110, r111, (by rw [hs9]; exact s112), fr50, (by assumption)⟩
 ·
  intro vs ls H113 E113 st hE
  have f114 : ¬ ((i13 : Int) < (ms.length : Int)) := df st 0
  have b115 := eo st hE 4 (.int .i64 (i13 : Int))
  have b116 := eo st hE 0 (.ptr lg 0)
  have b117 := eo st hE 7 (.ptr lg 0)
  have b118 := eo st hE 8 (.ptr lg 0)
  have b119 := eo st hE 9 (.ptr lg 2)
  have b120 := eo st hE 10 S
  have b121 := eo st hE 6 (.int .i64 (i13 : Int))
  have b122 := eo st hE 11 (.int .i64 (ms.length : Int))
  obtain ⟨w123, hw123⟩ : ∃ z, z = (decide ((i13 : Int) < (ms.length : Int))) := ⟨_, rfl⟩
  have b124 : E113 12 = .bool w123 := by rw [hw123]; exact eo st hE 12 _
  have b125 := eo st hE 3 acc13_0
  have g126 : Grew Hi13 H113 := (gk st)
  have g127 : Grew H H113 := Grew.trans gt13 g126
  have r128 := g126.at r13_0
  have s129 := s13_0.grew g126
  clear st hE vs ls
  refine res_exit (id := 0) (by kernel_rfl) ?_
  have q130 := q14.app (.cons ⟨_, rfl⟩ .nil : KdsL [.bool] [.bool w123])
  refine run_mc (φ := φ0) (pm := pmR 1 [] 0) 20 (ws := [⟨lg, 0, [nI 1, nI 2, n1 0], false⟩]) (env := [(4, nI 3), (0, .ptr 0 0), (7, .ptr 0 0), (8, .ptr 0 0), (9, .ptr 0 2), (10, n1 0), (6, nI 3), (11, nI 5), (12, nB 6), (3, n1 4)]) q130 (.cons (wR r128 q130) .nil) (sepOk_ro rfl) .nil (eC q130 (.cons b115 (.cons b116 (.cons b117 (.cons b118 (.cons b119 (.cons b120 (.cons b121 (.cons b122 (.cons b124 (.cons b125 .nil))))))))))) tb_ok ap_ok ?_
  refine all1 (by kernel_rfl) ?_
  intro vs ls H131 E131 st hE
  have b132 := eo st hE 37 acc13_0
  have g133 : Grew H113 H131 := (gk st)
  have g134 : Grew H H131 := Grew.trans g127 g133
  have s136 := s129.grew g133
  clear st hE vs ls
  refine res_conv (d := some 38) (c := .bs) (x := .tmp 37) (r := (.str (strOf (gridT x ms i13)))) (by kernel_rfl) (conv_bs (H := H131) (gridT_recs x ms i13) s136.toL b132) ?_
  have q137 := q130.app (.cons ⟨_, rfl⟩ .nil : KdsL [.str] [.str (strOf (gridT x ms i13))])
  refine run_mc (φ := φ0) (pm := pmR 0 [] 0) 20 (ws := []) (env := [(37, n1 4), (38, .nd 7 .str)]) q137 .nil (sepOk_ro rfl) .nil (eC q137 (.cons (put_ne rfl b132) (.cons put_same .nil))) tb_ok ap_ok ?_
  refine all1 (by kernel_rfl) ?_
  intro vs ls H138 E138 st hE
  have gz : Grew H H138 := (Grew.trans g134 (gk st))
  exact res_ex (by kernel_rfl) (end_same st.inn hE (.inr rfl) (a := .str (strOf (gridT x ms i13))) (by kernel_rfl) gz.next ⟨by unfold gridS; rw [if_pos hok, show ms.length = i13 by omega], gz⟩)
theorem k_spec_GridText (H : AHeap) (x y : Int) (ms : List (List AV)) (hr : Recs KB ms) (S : AV) (hS : SlL H 1 ms S) (hmx : ms.length < 2 ^ 40) : ACalls Try.prog 30 [.agg [.int .i64 x, .int .i64 y, S]] H fun r H' => r = .str (gridS x y ms) ∧ Grew H H' := by
 refine res_start h_spec_GridText (by simp) ?_
 have q1 : KdsL [.one, KI, KI] [S, .int .i64 x, .int .i64 y] := .cons (slOne hS) (.cons ⟨_, rfl⟩ (.cons ⟨_, rfl⟩ .nil))
 refine run_mc (φ := φ0) (pm := pmR 0 [] 0) 20 (ws := []) (env := [(0, .agg [nI 1, nI 2, n1 0])]) q1 .nil (sepOk_ro rfl) .nil (eC q1 (.cons (t := 0) rfl .nil)) tb_ok ap_ok ?_
 refine all1 (by kernel_rfl) ?_
 intro vs ls H2 E2 st hE
 obtain ⟨p3, e4, r5, n6⟩ := ptr_of st.inn hE 1 0 (by kernel_rfl) (ds := [.int .i64 x, .int .i64 y, S]) (by kernel_rfl)
 have op3 : H.next ≤ p3 := Nat.le_trans (Nat.le_refl _) (n6 (Nat.le_of_ble_eq_true rfl))
 have g7 : Grew H H2 := (gk st)
 have g8 : Grew H H2 := Grew.trans (Grew.refl _) g7
 clear st hE vs ls
 refine res_call (d := (some 3)) (f := 68) (args := [.tmp 1]) (by kernel_rfl) (R := fun z H' => z = .bool (okGr x y ms) ∧ H' = H2) ?_ ?_
 ·
  show ACalls _ _ [E2 1] _ _
  rw [e4]
  exact k_l07Ok H2 p3 x y ms hr S (hS.grew g8) hmx r5
 rintro z H2 ⟨rfl, rfl⟩
 have q9 := q1.app (.cons ⟨_, rfl⟩ .nil : KdsL [.bool] [.bool (okGr x y ms)])
 refine run_mc (φ := φ0) (pm := pmR 1 [] 0) 20 (ws := [⟨p3, 0, [nI 1, nI 2, n1 0], false⟩]) (env := [(1, .ptr 0 0), (3, nB 3)]) q9 (.cons (wR r5 q9) .nil) (sepOk_ro rfl) .nil (eC q9 (.cons (put_ne rfl e4) (.cons put_same .nil))) tb_ok ap_ok ?_
 refine all2 (by kernel_rfl) ?_ ?_
 ·
  intro vs ls H10 E10 st hE
  have f11 : (okGr x y ms) = false := bf st 0
  have gz : Grew H H10 := (Grew.trans g8 (gk st))
  exact res_ex (by kernel_rfl) (end_same st.inn hE (.inr rfl) (a := .str []) (by kernel_rfl) gz.next ⟨by unfold gridS; rw [f11]; rfl, gz⟩)
 ·
  intro vs ls H12 E12 st hE
  have f13 : (okGr x y ms) = true := bf st 0
  obtain ⟨hx1, hx2, hy1, hy2, hxy, hml⟩ := okGr_facts f13
  have b14 := eo st hE 1 (.ptr p3 0)
  have g15 : Grew H2 H12 := (gk st)
  have g16 : Grew H H12 := Grew.trans g8 g15
  have r17 := g15.at r5
  clear st hE vs ls
  refine res_call (d := (some 5)) (f := 76) (args := [.tmp 1]) (by kernel_rfl) (R := fun z H' => z = .str (gridS x y ms) ∧ Grew H12 H') ?_ ?_
  ·
   show ACalls _ _ [E12 1] _ _
   rw [b14]
   exact k_l07Text H12 p3 x y ms hr S (hS.grew g16) hmx f13 r17
  rintro z H18 ⟨rfl, gH18⟩
  have g19 : Grew H H18 := Grew.trans g16 gH18
  have r20 := gH18.at r17
  have q21 := q9.app (.cons ⟨_, rfl⟩ .nil : KdsL [.str] [.str (gridS x y ms)])
  refine run_mc (φ := φ0) (pm := pmR 1 [] 0) 20 (ws := [⟨p3, 0, [nI 1, nI 2, n1 0], false⟩]) (env := [(1, .ptr 0 0), (5, .nd 4 .str)]) q21 (.cons (wR r20 q21) .nil) (sepOk_ro rfl) .nil (eC q21 (.cons (put_ne rfl b14) (.cons put_same .nil))) tb_ok ap_ok ?_
  refine all1 (by kernel_rfl) ?_
  intro vs ls H22 E22 st hE
  have gz : Grew H H22 := (Grew.trans g19 (gk st))
  exact res_ex (by kernel_rfl) (end_same st.inn hE (.inr rfl) (a := .str (gridS x y ms)) (by kernel_rfl) gz.next ⟨rfl, gz⟩)
end Go.Proofs.Ytnleibiniajbnaa
