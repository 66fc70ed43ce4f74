/- Contracts: marks that are better, by both. -/
import Derived.Test.YtacligocjfhckaaTCell
import Derived.Test.YtacligocjfhckaaTValidC
import Derived.Test.YtacligocjfhckaaSxC
import Derived.Test.YtacligocjfhckaaSxE
import Derived.Test.YtacligocjfhckaaSxD
set_option linter.unusedVariables false
set_option linter.unusedSimpArgs false
namespace Go.Proofs.Ytacligocjfhckaa
open Go.Ab
set_option maxRecDepth 100000
set_option maxHeartbeats 1000000
attribute [local irreducible] Res
/-- A mark's words. -/
def markX : List AV → Bool
 | [_, _, _, .flt _ x, .flt _ y, .flt _ z, .flt _ w, .int _ s, .int _ l] => finX x y z && (sideX w && (decide (1 ≤ s ∧ s ≤ 1000000) && decide (0 ≤ l ∧ l ≤ 1000000000)))
 | _ => false
theorem k_SameNumberX (x y : Option Nat) (hx : fOk .f32 x) (hy : fOk .f32 y) (sx : x.isSome = true) (sy : y.isSome = true) (H : AHeap) : APure Try.prog 65 [.flt .f32 x, .flt .f32 y] H (.bool (decide (x = y))) := by
 obtain ⟨u, rfl⟩ := Option.isSome_iff_exists.1 sx
 obtain ⟨v, rfl⟩ := Option.isSome_iff_exists.1 sy
 refine res_start h_impl_SameNumber (by simp) ?_
 have q1 : KdsL [KF, KF] [.flt .f32 (some u), .flt .f32 (some v)] := .cons ⟨_, rfl, hx⟩ (.cons ⟨_, rfl, hy⟩ .nil)
 refine run_mc (φ := φ0) (pm := pmR 0 [] 10) 20 (ws := []) (env := [(0, nF 0), (1, nF 1)]) q1 .nil (sepOk_ro rfl) .nil (eC q1 (.cons (t := 0) rfl (.cons (t := 1) rfl .nil))) tb_ok ap_ok ?_
 refine all3 (by kernel_rfl) ?_ ?_ ?_
 ·
  intro vs ls H2 E2 st hE
  have f3 : (ford .f32 (some v) (some v) == some .eq) = false := bf st 0
  have f4 : (ford .f32 (some u) (some u) == some .eq) = false := bf st 1
  exact absurd (feq_self hy rfl) (by rw [f3]; decide)
 ·
  intro vs ls H5 E5 st hE
  have f6 : (ford .f32 (some v) (some v) == some .eq) = true := bf st 0
  have f7 : (ford .f32 (some u) (some u) == some .eq) = false := bf st 1
  exact absurd (feq_self hx rfl) (by rw [f7]; decide)
 ·
  intro vs ls H8 E8 st hE
  have f9 : (ford .f32 (some u) (some u) == some .eq) = true := bf st 0
  refine res_ex (by kernel_rfl) (end_flat st.inn hE (.inr rfl) (a := .bool (decide ((u : Int) = (v : Int)))) (by kernel_rfl) (Grew.trans (Grew.refl _) (gk st)) rfl ⟨?_, rfl⟩)
  congr 1; exact decide_eq_decide.2 (by simp; omega)
theorem k_l01SameX (x y : Option Nat) (hx : fOk .f32 x) (hy : fOk .f32 y) (sx : x.isSome = true) (sy : y.isSome = true) (H : AHeap) : APure Try.prog 74 [.flt .f32 x, .flt .f32 y] H (.bool (decide (x = y))) := by
 obtain ⟨u, rfl⟩ := Option.isSome_iff_exists.1 sx
 obtain ⟨v, rfl⟩ := Option.isSome_iff_exists.1 sy
 refine res_start h_spec_l01Same (by simp) ?_
 have q1 : KdsL [KF, KF] [.flt .f32 (some u), .flt .f32 (some v)] := .cons ⟨_, rfl, hx⟩ (.cons ⟨_, rfl, hy⟩ .nil)
 refine run_mc (φ := φ0) (pm := pmR 0 [] 10) 20 (ws := []) (env := [(0, nF 0), (1, nF 1)]) q1 .nil (sepOk_ro rfl) .nil (eC q1 (.cons (t := 0) rfl (.cons (t := 1) rfl .nil))) tb_ok ap_ok ?_
 refine all3 (by kernel_rfl) ?_ ?_ ?_
 ·
  intro vs ls H2 E2 st hE
  have f3 : (ford .f32 (some u) (some u) == some .eq) = false := bf st 0
  exact absurd (feq_self hx rfl) (by rw [f3]; decide)
 ·
  intro vs ls H4 E4 st hE
  have f5 : (ford .f32 (some v) (some v) == some .eq) = false := bf st 0
  have f6 : (ford .f32 (some u) (some u) == some .eq) = true := bf st 1
  exact absurd (feq_self hy rfl) (by rw [f5]; decide)
 ·
  intro vs ls H7 E7 st hE
  have f8 : (ford .f32 (some v) (some v) == some .eq) = true := bf st 0
  have f9 : (ford .f32 (some u) (some u) == some .eq) = true := bf st 1
  refine res_ex (by kernel_rfl) (end_flat st.inn hE (.inr rfl) (a := .bool (decide ((u : Int) = (v : Int)))) (by kernel_rfl) (Grew.trans (Grew.refl _) (gk st)) rfl ⟨?_, rfl⟩)
  congr 1; exact decide_eq_decide.2 (by simp; omega)
theorem k_Signbit0 (b : Nat) (hb : fOk .f64 (some b)) (H : AHeap) : APure Try.prog 78 [.flt .f64 (some b)] H (.bool (decide (9223372036854775808 ≤ b))) := by
 refine res_start h_math_Signbit (by simp) ?_
 have q1 : KdsL [.flt .f64] [.flt .f64 (some b)] := .cons ⟨_, rfl, hb⟩ .nil
 refine run_mc (φ := φ0) (pm := pmR 0 [] 0) 20 (ws := []) (env := [(0, .nd 0 (.flt .f64))]) q1 .nil (sepOk_ro rfl) .nil (eC q1 (.cons (t := 0) rfl .nil)) tb_ok ap_ok ?_
 refine all1 (by kernel_rfl) ?_
 intro vs ls H2 E2 st hE
 have b3 := eo st hE 3 (.flt .f64 (some b))
 have g4 : Grew H H2 := (gk st)
 have g5 : Grew H H2 := Grew.trans (Grew.refl _) g4
 clear st hE vs ls
 refine res_call (d := (some 4)) (f := 90) (args := [.tmp 3]) (by kernel_rfl) (R := fun z H' => z = .int .u64 (b : Int) ∧ H' = H2) ?_ ?_
 ·
  show ACalls _ _ [E2 3] _ _
  rw [b3]
  exact k_bits64 H2 b
 rintro z H2 ⟨rfl, rfl⟩
 have q6 := q1.app (.cons ⟨_, rfl⟩ .nil : KdsL [.int .u64] [.int .u64 (b : Int)])
 refine run_mc (φ := φ0) (pm := pmR 0 [] 0) 20 (ws := []) (env := [(3, .nd 0 (.flt .f64)), (4, .nd 1 (.int .u64))]) q6 .nil (sepOk_ro rfl) .nil (eC q6 (.cons (put_ne rfl b3) (.cons put_same .nil))) tb_ok ap_ok ?_
 refine all1 (by kernel_rfl) ?_
 intro vs ls H7 E7 st hE
 refine res_ex (by kernel_rfl) (end_flat st.inn hE (.inr rfl) (a := .bool (decide ((IntKind.wrap .i64 (b : Int)) < 0))) (by kernel_rfl) (Grew.trans g5 (gk st)) rfl ⟨?_, rfl⟩)
 congr 1; have h1 : b < 18446744073709551616 := (hb b rfl).1; exact decide_eq_decide.2 (by rw [IntKind.wrap_i64]; omega)
theorem k_Signbit (y : Option Nat) (hy : fOk .f32 y) (sy : y.isSome = true) (H : AHeap) : APure Try.prog 78 [.flt .f64 (wid y)] H (.bool (sgnF y)) := by
 have h1 := fltn_of (wid_n hy)
 obtain ⟨b, hb⟩ := Option.isSome_iff_exists.1 (wid_some hy sy)
 unfold sgnF
 rw [hb] at h1 ⊢
 exact k_Signbit0 b h1 H
theorem markX_fin {v0 v1 v2 : Int} {v3 v4 v5 v6 : Option Nat} {v7 v8 : Int} (h : markX [.int .i32 v0, .int .i32 v1, .int .i32 v2, .flt .f32 v3, .flt .f32 v4, .flt .f32 v5, .flt .f32 v6, .int .i64 v7, .int .i64 v8] = true) (o3 : fOk .f32 v3) (o4 : fOk .f32 v4) (o5 : fOk .f32 v5) : v3.isSome = true ∧ v4.isSome = true ∧ v5.isSome = true := by
 have h : (finX v3 v4 v5 && (sideX v6 && (decide (1 ≤ v7 ∧ v7 ≤ 1000000) && decide (0 ≤ v8 ∧ v8 ≤ 1000000000)))) = true := h
 rw [Bool.and_eq_true] at h
 obtain ⟨h1, h2, h3⟩ := finX_all h.1
 obtain ⟨_, _, _, _, rfl, _⟩ := fin32_num o3 h1
 obtain ⟨_, _, _, _, rfl, _⟩ := fin32_num o4 h2
 obtain ⟨_, _, _, _, rfl, _⟩ := fin32_num o5 h3
 exact ⟨rfl, rfl, rfl⟩
def betW (at_ : Option Nat → Option Nat → Bool → Bool) : List AV → List AV → Bool
 | [_, _, _, .flt _ x, .flt _ y, .flt _ z, .flt _ w, .int _ s, .int _ l], [_, _, _, .flt _ x', .flt _ y', .flt _ z', .flt _ w', .int _ s', .int _ l'] =>
  if l = l' then (if (ford .f32 w w' == some .eq) = true then (if s = s' then at_ x x' (at_ y y' (at_ z z' false)) else decide (s' < s)) else (ford .f32 w' w == some .lt)) else decide (l' < l)
 | _, _ => false
def betX (m m' : List AV) : Bool := markX m && (markX m' && betW atI m m')
theorem k_validMarkX (v0 v1 v2 : Int) (v3 v4 v5 v6 : Option Nat) (v7 v8 : Int) (o3 : fOk .f32 v3) (o4 : fOk .f32 v4) (o5 : fOk .f32 v5) (o6 : fOk .f32 v6) (H : AHeap) : APure Try.prog 35 [.agg [.int .i32 v0, .int .i32 v1, .int .i32 v2, .flt .f32 v3, .flt .f32 v4, .flt .f32 v5, .flt .f32 v6, .int .i64 v7, .int .i64 v8]] H (.bool (markX [.int .i32 v0, .int .i32 v1, .int .i32 v2, .flt .f32 v3, .flt .f32 v4, .flt .f32 v5, .flt .f32 v6, .int .i64 v7, .int .i64 v8])) := by
 refine res_start h_impl_validMark (by simp) ?_
 have q1 : KdsL [K2, K2, K2, KF, KF, KF, KF, KI, KI, .bool, .bool] [.int .i32 v0, .int .i32 v1, .int .i32 v2, .flt .f32 v3, .flt .f32 v4, .flt .f32 v5, .flt .f32 v6, .int .i64 v7, .int .i64 v8, .bool (finX v3 v4 v5), .bool (sideX v6)] := .cons ⟨_, rfl⟩ (.cons ⟨_, rfl⟩ (.cons ⟨_, rfl⟩ (.cons ⟨_, rfl, o3⟩ (.cons ⟨_, rfl, o4⟩ (.cons ⟨_, rfl, o5⟩ (.cons ⟨_, rfl, o6⟩ (.cons ⟨_, rfl⟩ (.cons ⟨_, rfl⟩ (.cons ⟨_, rfl⟩ (.cons ⟨_, rfl⟩ .nil))))))))))
 refine run_mc (φ := φ0) (pm := pmR 0 [(.call 57 [.agg [nF 3, nF 4, nF 5]], nB 9), (.call 55 [nF 6], nB 10)] 0) 20 (ws := []) (env := [(0, .agg [n2 0, n2 1, n2 2, nF 3, nF 4, nF 5, nF 6, nI 7, nI 8])]) q1 .nil (sepOk_ro rfl) (.cons (rule_call (args := [.agg [.flt .f32 v3, .flt .f32 v4, .flt .f32 v5]]) (dL q1) (dE q1) (fun H9 hk => k_finX v3 v4 v5 o3 o4 o5 H9)) (.cons (rule_call (args := [.flt .f32 v6]) (dL q1) (dE q1) (fun H9 hk => k_isSideX v6 o6 H9)) .nil)) (eC q1 (.cons (t := 0) rfl .nil)) tb_ok ap_ok ?_
 refine all6 (by kernel_rfl) ?_ ?_ ?_ ?_ ?_ ?_
 ·
  intro vs ls H2 E2 st hE
  have f3 : ¬ (v8 < 0) := df st 0
  have f4 : ¬ (1000000 < v7) := df st 1
  have f5 : ¬ (v7 < 1) := df st 2
  have f6 : (sideX v6) = true := bf st 3
  have f7 : (finX v3 v4 v5) = true := bf st 4
  refine res_ex (by kernel_rfl) (end_flat st.inn hE (.inr rfl) (a := .bool (!(decide (1000000000 < v8)))) (by kernel_rfl) (Grew.trans (Grew.refl _) (gk st)) rfl ⟨?_, rfl⟩)
  show _ = AV.bool (finX v3 v4 v5 && (sideX v6 && (decide (1 ≤ v7 ∧ v7 ≤ 1000000) && decide (0 ≤ v8 ∧ v8 ≤ 1000000000))))
  rw [f6, f7, decide_eq_true (show 1 ≤ v7 ∧ v7 ≤ 1000000 by omega)]; simp only [Bool.true_and, ← decide_not]; congr 1; exact decide_eq_decide.2 (by omega)
 ·
  intro vs ls H8 E8 st hE
  have f9 : v8 < 0 := dt st 0
  have f10 : ¬ (1000000 < v7) := df st 1
  have f11 : ¬ (v7 < 1) := df st 2
  have f12 : (sideX v6) = true := bf st 3
  have f13 : (finX v3 v4 v5) = true := bf st 4
  refine res_ex (by kernel_rfl) (end_flat st.inn hE (.inr rfl) (a := .bool false) (by kernel_rfl) (Grew.trans (Grew.refl _) (gk st)) rfl ⟨?_, rfl⟩)
  show _ = AV.bool (finX v3 v4 v5 && (sideX v6 && (decide (1 ≤ v7 ∧ v7 ≤ 1000000) && decide (0 ≤ v8 ∧ v8 ≤ 1000000000))))
  first | (rw [f12, f13]; rfl) | (rw [f12, f13, decide_eq_false (by omega)]; rfl) | (rw [f12, f13, decide_eq_true (by omega), decide_eq_false (by omega)]; rfl) | simp [f12, f13]
 ·
  intro vs ls H14 E14 st hE
  have f15 : 1000000 < v7 := dt st 0
  have f16 : ¬ (v7 < 1) := df st 1
  have f17 : (sideX v6) = true := bf st 2
  have f18 : (finX v3 v4 v5) = true := bf st 3
  refine res_ex (by kernel_rfl) (end_flat st.inn hE (.inr rfl) (a := .bool false) (by kernel_rfl) (Grew.trans (Grew.refl _) (gk st)) rfl ⟨?_, rfl⟩)
  show _ = AV.bool (finX v3 v4 v5 && (sideX v6 && (decide (1 ≤ v7 ∧ v7 ≤ 1000000) && decide (0 ≤ v8 ∧ v8 ≤ 1000000000))))
  first | (rw [f17, f18]; rfl) | (rw [f17, f18, decide_eq_false (by omega)]; rfl) | (rw [f17, f18, decide_eq_true (by omega), decide_eq_false (by omega)]; rfl) | simp [f17, f18]
 ·
  intro vs ls H19 E19 st hE
  have f20 : v7 < 1 := dt st 0
  have f21 : (sideX v6) = true := bf st 1
  have f22 : (finX v3 v4 v5) = true := bf st 2
  refine res_ex (by kernel_rfl) (end_flat st.inn hE (.inr rfl) (a := .bool false) (by kernel_rfl) (Grew.trans (Grew.refl _) (gk st)) rfl ⟨?_, rfl⟩)
  show _ = AV.bool (finX v3 v4 v5 && (sideX v6 && (decide (1 ≤ v7 ∧ v7 ≤ 1000000) && decide (0 ≤ v8 ∧ v8 ≤ 1000000000))))
  first | (rw [f21, f22]; rfl) | (rw [f21, f22, decide_eq_false (by omega)]; rfl) | (rw [f21, f22, decide_eq_true (by omega), decide_eq_false (by omega)]; rfl) | simp [f21, f22]
 ·
  intro vs ls H23 E23 st hE
  have f24 : (sideX v6) = false := bf st 0
  have f25 : (finX v3 v4 v5) = true := bf st 1
  refine res_ex (by kernel_rfl) (end_flat st.inn hE (.inr rfl) (a := .bool false) (by kernel_rfl) (Grew.trans (Grew.refl _) (gk st)) rfl ⟨?_, rfl⟩)
  show _ = AV.bool (finX v3 v4 v5 && (sideX v6 && (decide (1 ≤ v7 ∧ v7 ≤ 1000000) && decide (0 ≤ v8 ∧ v8 ≤ 1000000000))))
  first | (rw [f24, f25]; rfl) | (rw [f24, f25, decide_eq_false (by omega)]; rfl) | (rw [f24, f25, decide_eq_true (by omega), decide_eq_false (by omega)]; rfl) | simp [f24, f25]
 ·
  intro vs ls H26 E26 st hE
  have f27 : (finX v3 v4 v5) = false := bf st 0
  refine res_ex (by kernel_rfl) (end_flat st.inn hE (.inr rfl) (a := .bool false) (by kernel_rfl) (Grew.trans (Grew.refl _) (gk st)) rfl ⟨?_, rfl⟩)
  show _ = AV.bool (finX v3 v4 v5 && (sideX v6 && (decide (1 ≤ v7 ∧ v7 ≤ 1000000) && decide (0 ≤ v8 ∧ v8 ≤ 1000000000))))
  first | (rw [f27]; rfl) | (rw [f27, decide_eq_false (by omega)]; rfl) | (rw [f27, decide_eq_true (by omega), decide_eq_false (by omega)]; rfl) | simp [f27]
def tbX : List (Nat × AFun) := tb.filter fun p => !(p.1 == 65 || p.1 == 74 || p.1 == 78)
theorem tbX_ok : TbOk Try.prog tbX := fun f a h => tb_ok f a (List.mem_filter.1 h).1
def pmX (fl : Nat) (ru : List (RK × SV)) (un : Nat) : Pm := ⟨fl, ru, tbX, ap, un⟩
theorem k_BetterMark (v0 v1 v2 : Int) (v3 v4 v5 v6 : Option Nat) (v7 v8 : Int) (o3 : fOk .f32 v3) (o4 : fOk .f32 v4) (o5 : fOk .f32 v5) (o6 : fOk .f32 v6) (u0 u1 u2 : Int) (u3 u4 u5 u6 : Option Nat) (u7 u8 : Int) (p3 : fOk .f32 u3) (p4 : fOk .f32 u4) (p5 : fOk .f32 u5) (p6 : fOk .f32 u6) (H : AHeap) : APure Try.prog 62 [.agg [.int .i32 v0, .int .i32 v1, .int .i32 v2, .flt .f32 v3, .flt .f32 v4, .flt .f32 v5, .flt .f32 v6, .int .i64 v7, .int .i64 v8], .agg [.int .i32 u0, .int .i32 u1, .int .i32 u2, .flt .f32 u3, .flt .f32 u4, .flt .f32 u5, .flt .f32 u6, .int .i64 u7, .int .i64 u8]] H (.bool (betX [.int .i32 v0, .int .i32 v1, .int .i32 v2, .flt .f32 v3, .flt .f32 v4, .flt .f32 v5, .flt .f32 v6, .int .i64 v7, .int .i64 v8] [.int .i32 u0, .int .i32 u1, .int .i32 u2, .flt .f32 u3, .flt .f32 u4, .flt .f32 u5, .flt .f32 u6, .int .i64 u7, .int .i64 u8])) := by
 refine res_start h_impl_BetterMark (by simp) ?_
 have q1 : KdsL [K2, K2, K2, KF, KF, KF, KF, KI, KI, K2, K2, K2, KF, KF, KF, KF, KI, KI, .bool, .bool] [.int .i32 v0, .int .i32 v1, .int .i32 v2, .flt .f32 v3, .flt .f32 v4, .flt .f32 v5, .flt .f32 v6, .int .i64 v7, .int .i64 v8, .int .i32 u0, .int .i32 u1, .int .i32 u2, .flt .f32 u3, .flt .f32 u4, .flt .f32 u5, .flt .f32 u6, .int .i64 u7, .int .i64 u8, .bool (markX [.int .i32 v0, .int .i32 v1, .int .i32 v2, .flt .f32 v3, .flt .f32 v4, .flt .f32 v5, .flt .f32 v6, .int .i64 v7, .int .i64 v8]), .bool (markX [.int .i32 u0, .int .i32 u1, .int .i32 u2, .flt .f32 u3, .flt .f32 u4, .flt .f32 u5, .flt .f32 u6, .int .i64 u7, .int .i64 u8])] := .cons ⟨_, rfl⟩ (.cons ⟨_, rfl⟩ (.cons ⟨_, rfl⟩ (.cons ⟨_, rfl, o3⟩ (.cons ⟨_, rfl, o4⟩ (.cons ⟨_, rfl, o5⟩ (.cons ⟨_, rfl, o6⟩ (.cons ⟨_, rfl⟩ (.cons ⟨_, rfl⟩ (.cons ⟨_, rfl⟩ (.cons ⟨_, rfl⟩ (.cons ⟨_, rfl⟩ (.cons ⟨_, rfl, p3⟩ (.cons ⟨_, rfl, p4⟩ (.cons ⟨_, rfl, p5⟩ (.cons ⟨_, rfl, p6⟩ (.cons ⟨_, rfl⟩ (.cons ⟨_, rfl⟩ (.cons ⟨_, rfl⟩ (.cons ⟨_, rfl⟩ .nil)))))))))))))))))))
 refine run_mc (φ := φ0) (pm := pmX 0 [(.call 35 [.agg [n2 0, n2 1, n2 2, nF 3, nF 4, nF 5, nF 6, nI 7, nI 8]], nB 18), (.call 35 [.agg [n2 9, n2 10, n2 11, nF 12, nF 13, nF 14, nF 15, nI 16, nI 17]], nB 19)] 5) 20 (ws := []) (env := [(0, .agg [n2 0, n2 1, n2 2, nF 3, nF 4, nF 5, nF 6, nI 7, nI 8]), (1, .agg [n2 9, n2 10, n2 11, nF 12, nF 13, nF 14, nF 15, nI 16, nI 17])]) q1 .nil (sepOk_ro rfl) (.cons (rule_call (args := [.agg [.int .i32 v0, .int .i32 v1, .int .i32 v2, .flt .f32 v3, .flt .f32 v4, .flt .f32 v5, .flt .f32 v6, .int .i64 v7, .int .i64 v8]]) (dL q1) (dE q1) (fun H9 hk => k_validMarkX v0 v1 v2 v3 v4 v5 v6 v7 v8 o3 o4 o5 o6 H9)) (.cons (rule_call (args := [.agg [.int .i32 u0, .int .i32 u1, .int .i32 u2, .flt .f32 u3, .flt .f32 u4, .flt .f32 u5, .flt .f32 u6, .int .i64 u7, .int .i64 u8]]) (dL q1) (dE q1) (fun H9 hk => k_validMarkX u0 u1 u2 u3 u4 u5 u6 u7 u8 p3 p4 p5 p6 H9)) .nil)) (eC q1 (.cons (t := 0) rfl (.cons (t := 1) rfl .nil))) tbX_ok ap_ok ?_
 refine all6 (by kernel_rfl) ?_ ?_ ?_ ?_ ?_ ?_
 ·
  intro vs ls H2 E2 st hE
  have f3 : (markX [.int .i32 v0, .int .i32 v1, .int .i32 v2, .flt .f32 v3, .flt .f32 v4, .flt .f32 v5, .flt .f32 v6, .int .i64 v7, .int .i64 v8]) = false := bf st 0
  refine res_ex (by kernel_rfl) (end_flat st.inn hE (.inr rfl) (a := .bool false) (by kernel_rfl) (Grew.trans (Grew.refl _) (gk st)) rfl ⟨?_, rfl⟩)
  unfold betX; rw [f3]
  simp only [betW, atI]
  simp
 ·
  intro vs ls H4 E4 st hE
  have f5 : (markX [.int .i32 u0, .int .i32 u1, .int .i32 u2, .flt .f32 u3, .flt .f32 u4, .flt .f32 u5, .flt .f32 u6, .int .i64 u7, .int .i64 u8]) = false := bf st 0
  have f6 : (markX [.int .i32 v0, .int .i32 v1, .int .i32 v2, .flt .f32 v3, .flt .f32 v4, .flt .f32 v5, .flt .f32 v6, .int .i64 v7, .int .i64 v8]) = true := bf st 1
  refine res_ex (by kernel_rfl) (end_flat st.inn hE (.inr rfl) (a := .bool false) (by kernel_rfl) (Grew.trans (Grew.refl _) (gk st)) rfl ⟨?_, rfl⟩)
  unfold betX; rw [f5, f6]
  simp only [betW, atI]
  simp
 ·
  intro vs ls H7 E7 st hE
  have f8 : ¬ (v8 = u8) := df st 0
  have f9 : (markX [.int .i32 u0, .int .i32 u1, .int .i32 u2, .flt .f32 u3, .flt .f32 u4, .flt .f32 u5, .flt .f32 u6, .int .i64 u7, .int .i64 u8]) = true := bf st 1
  have f10 : (markX [.int .i32 v0, .int .i32 v1, .int .i32 v2, .flt .f32 v3, .flt .f32 v4, .flt .f32 v5, .flt .f32 v6, .int .i64 v7, .int .i64 v8]) = true := bf st 2
  refine res_ex (by kernel_rfl) (end_flat st.inn hE (.inr rfl) (a := .bool (decide (u8 < v8))) (by kernel_rfl) (Grew.trans (Grew.refl _) (gk st)) rfl ⟨?_, rfl⟩)
  unfold betX; rw [f9, f10]
  simp only [betW, atI]
  simp [f8]
 ·
  intro vs ls H11 E11 st hE
  have f12 : (ford .f32 v6 u6 == some .eq) = false := bf st 0
  have f13 : v8 = u8 := dt st 1
  have f14 : (markX [.int .i32 u0, .int .i32 u1, .int .i32 u2, .flt .f32 u3, .flt .f32 u4, .flt .f32 u5, .flt .f32 u6, .int .i64 u7, .int .i64 u8]) = true := bf st 2
  have f15 : (markX [.int .i32 v0, .int .i32 v1, .int .i32 v2, .flt .f32 v3, .flt .f32 v4, .flt .f32 v5, .flt .f32 v6, .int .i64 v7, .int .i64 v8]) = true := bf st 3
  refine res_ex (by kernel_rfl) (end_flat st.inn hE (.inr rfl) (a := .bool (ford .f32 u6 v6 == some .lt)) (by kernel_rfl) (Grew.trans (Grew.refl _) (gk st)) rfl ⟨?_, rfl⟩)
  unfold betX; rw [f14, f15]
  simp only [betW, atI, f12]
  simp [f13]
 ·
  intro vs ls H16 E16 st hE
  have f17 : ¬ (v7 = u7) := df st 0
  have f18 : (ford .f32 v6 u6 == some .eq) = true := bf st 1
  have f19 : v8 = u8 := dt st 2
  have f20 : (markX [.int .i32 u0, .int .i32 u1, .int .i32 u2, .flt .f32 u3, .flt .f32 u4, .flt .f32 u5, .flt .f32 u6, .int .i64 u7, .int .i64 u8]) = true := bf st 3
  have f21 : (markX [.int .i32 v0, .int .i32 v1, .int .i32 v2, .flt .f32 v3, .flt .f32 v4, .flt .f32 v5, .flt .f32 v6, .int .i64 v7, .int .i64 v8]) = true := bf st 4
  refine res_ex (by kernel_rfl) (end_flat st.inn hE (.inr rfl) (a := .bool (decide (u7 < v7))) (by kernel_rfl) (Grew.trans (Grew.refl _) (gk st)) rfl ⟨?_, rfl⟩)
  unfold betX; rw [f20, f21]
  simp only [betW, atI, f18]
  simp [f17, f19]
 ·
  intro vs ls H22 E22 st hE
  have f23 : v7 = u7 := dt st 0
  have f24 : (ford .f32 v6 u6 == some .eq) = true := bf st 1
  have f25 : v8 = u8 := dt st 2
  have f26 : (markX [.int .i32 u0, .int .i32 u1, .int .i32 u2, .flt .f32 u3, .flt .f32 u4, .flt .f32 u5, .flt .f32 u6, .int .i64 u7, .int .i64 u8]) = true := bf st 3
  have f27 : (markX [.int .i32 v0, .int .i32 v1, .int .i32 v2, .flt .f32 v3, .flt .f32 v4, .flt .f32 v5, .flt .f32 v6, .int .i64 v7, .int .i64 v8]) = true := bf st 4
  obtain ⟨p28, e29, r30, n31⟩ := ptr_of st.inn hE 2 0 (by kernel_rfl) (ds := [.int .i32 v0, .int .i32 v1, .int .i32 v2, .flt .f32 v3, .flt .f32 v4, .flt .f32 v5, .flt .f32 v6, .int .i64 v7, .int .i64 v8]) (by kernel_rfl)
  have op28 : H.next ≤ p28 := Nat.le_trans (Nat.le_refl _) (n31 (Nat.le_of_ble_eq_true rfl))
  obtain ⟨p32, e33, r34, n35⟩ := ptr_of st.inn hE 3 1 (by kernel_rfl) (ds := [.int .i32 u0, .int .i32 u1, .int .i32 u2, .flt .f32 u3, .flt .f32 u4, .flt .f32 u5, .flt .f32 u6, .int .i64 u7, .int .i64 u8]) (by kernel_rfl)
  have op32 : H.next ≤ p32 := Nat.le_trans (Nat.le_refl _) (n35 (Nat.le_of_ble_eq_true rfl))
  have ne36 : Apart p28 p32 := ⟨ptr_ne st.inn hE 2 0 3 1 (by kernel_rfl) (by kernel_rfl) (cs := [.nd 0 (.int .i32), .nd 1 (.int .i32), .nd 2 (.int .i32), .nd 3 (.flt .f32), .nd 4 (.flt .f32), .nd 5 (.flt .f32), .nd 6 (.flt .f32), .nd 7 (.int .i64), .nd 8 (.int .i64)]) (by kernel_rfl) (by decide) e29 e33⟩
  have b37 := eo st hE 53 (.flt .f32 v3)
  have b38 := eo st hE 57 (.flt .f32 u3)
  have b39 := eo st hE 5 (.int .i64 0)
  have b40 := eo st hE 47 (.int .i64 0)
  have b41 := eo st hE 48 (.bool true)
  have b42 := eo st hE 49 (.int .i64 0)
  have b43 : E22 51 = .ptr p28 3 := ptr_off st.inn hE 51 0 3 (by kernel_rfl) 2 (by kernel_rfl) e29
  have b44 := eo st hE 50 (.int .i64 0)
  have b45 : E22 52 = .ptr p28 3 := ptr_off st.inn hE 52 0 3 (by kernel_rfl) 2 (by kernel_rfl) e29
  have b46 : E22 55 = .ptr p32 3 := ptr_off st.inn hE 55 1 3 (by kernel_rfl) 3 (by kernel_rfl) e33
  have b47 := eo st hE 54 (.int .i64 0)
  have b48 : E22 56 = .ptr p32 3 := ptr_off st.inn hE 56 1 3 (by kernel_rfl) 3 (by kernel_rfl) e33
  have g49 : Grew H H22 := (gk st)
  have g50 : Grew H H22 := Grew.trans (Grew.refl _) g49
  clear st hE vs ls
  refine res_kidF (d := (some 58)) (f := 65) (args := [.tmp 53, .tmp 57]) (by kernel_rfl) (R := fun z H' => z = .bool (decide (v3 = u3)) ∧ H' = H22) ?_ ?_
  ·
   show ACalls _ _ [E22 53, E22 57] _ _
   rw [b37, b38]
   exact k_SameNumberX v3 u3 o3 p3 (markX_fin f27 o3 o4 o5).1 (markX_fin f26 p3 p4 p5).1 H22
  rintro z H22 ⟨rfl, rfl⟩
  have q51 := q1.app (.cons ⟨_, rfl⟩ .nil : KdsL [.bool] [.bool (decide (v3 = u3))])
  refine run_mc (φ := φ0) (pm := pmX 2 [] 5) 20 (ws := [⟨p28, 0, [n2 0, n2 1, n2 2, nF 3, nF 4, nF 5, nF 6, nI 7, nI 8], false⟩, ⟨p32, 0, [n2 9, n2 10, n2 11, nF 12, nF 13, nF 14, nF 15, nI 16, nI 17], false⟩]) (env := [(53, nF 3), (57, nF 12), (5, .lit (.int .i64 0)), (2, .ptr 0 0), (3, .ptr 1 0), (47, .lit (.int .i64 0)), (48, .lit (.bool true)), (49, .lit (.int .i64 0)), (51, .ptr 0 3), (50, .lit (.int .i64 0)), (52, .ptr 0 3), (55, .ptr 1 3), (54, .lit (.int .i64 0)), (56, .ptr 1 3), (58, nB 20)]) q51 (.cons (wR r30 q51) (.cons (wR r34 q51) .nil)) (sepOk_ro rfl) .nil (eC q51 (.cons (put_ne rfl b37) (.cons (put_ne rfl b38) (.cons (put_ne rfl b39) (.cons (put_ne rfl e29) (.cons (put_ne rfl e33) (.cons (put_ne rfl b40) (.cons (put_ne rfl b41) (.cons (put_ne rfl b42) (.cons (put_ne rfl b43) (.cons (put_ne rfl b44) (.cons (put_ne rfl b45) (.cons (put_ne rfl b46) (.cons (put_ne rfl b47) (.cons (put_ne rfl b48) (.cons put_same .nil)))))))))))))))) tbX_ok ap_ok ?_
  refine all4 (by kernel_rfl) ?_ ?_ ?_ ?_
  ·
   intro vs ls H52 E52 st hE
   have f53 : (ford .f32 u3 v3 == some .lt) = true := bf st 0
   have f54 : ¬ (v3 = u3) := df st 1
   refine res_ex (by kernel_rfl) (end_flat st.inn hE (.inr rfl) (a := .bool true) (by kernel_rfl) (Grew.trans g50 (gk st)) rfl ⟨?_, rfl⟩)
   unfold betX; rw [f26, f27]
   simp only [betW, atI, f24, f53]
   simp [f23, f25, f54]
  ·
   intro vs ls H55 E55 st hE
   have f56 : (ford .f32 v3 u3 == some .eq) = true := bf st 0
   have f57 : (ford .f32 u3 v3 == some .lt) = false := bf st 1
   have f58 : ¬ (v3 = u3) := df st 2
   obtain ⟨w59, hw59⟩ : ∃ z, z = (wid v3) := ⟨_, rfl⟩
   have b60 : E55 84 = .flt .f64 w59 := by rw [hw59]; exact eo st hE 84 _
   have k61 : HasKd (.f64n) (.flt .f64 w59) := b60 ▸ kd_env st.inn hE 84 (kd := .f64n) (by kernel_rfl)
   obtain ⟨w62, hw62⟩ : ∃ z, z = (ford .f32 v3 u3 == some .eq) := ⟨_, rfl⟩
   have b63 : E55 79 = .bool w62 := by rw [hw62]; exact eo st hE 79 _
   obtain ⟨w64, hw64⟩ : ∃ z, z = (ford .f32 u3 v3 == some .lt) := ⟨_, rfl⟩
   have b65 : E55 69 = .bool w64 := by rw [hw64]; exact eo st hE 69 _
   have b66 := eo st hE 47 (.int .i64 0)
   have b67 := eo st hE 48 (.bool true)
   have b68 := eo st hE 49 (.int .i64 0)
   have b69 := eo st hE 5 (.int .i64 0)
   have b70 := eo st hE 2 (.ptr p28 0)
   have b71 := eo st hE 51 (.ptr p28 3)
   have b72 := eo st hE 50 (.int .i64 0)
   have b73 := eo st hE 52 (.ptr p28 3)
   have b74 := eo st hE 3 (.ptr p32 0)
   have b75 := eo st hE 55 (.ptr p32 3)
   have b76 := eo st hE 54 (.int .i64 0)
   have b77 := eo st hE 56 (.ptr p32 3)
   have b78 := eo st hE 53 (.flt .f32 v3)
   have b79 := eo st hE 57 (.flt .f32 u3)
   have b80 := eo st hE 58 (.bool (decide (v3 = u3)))
   obtain ⟨w81, hw81⟩ : ∃ z, z = (!(decide (v3 = u3))) := ⟨_, rfl⟩
   have b82 : E55 59 = .bool w81 := by rw [hw81]; exact eo st hE 59 _
   have b83 := eo st hE 61 (.ptr p28 3)
   have b84 := eo st hE 60 (.int .i64 0)
   have b85 := eo st hE 62 (.ptr p28 3)
   have b86 := eo st hE 65 (.ptr p32 3)
   have b87 := eo st hE 64 (.int .i64 0)
   have b88 := eo st hE 66 (.ptr p32 3)
   have b89 := eo st hE 63 (.flt .f32 v3)
   have b90 := eo st hE 67 (.flt .f32 u3)
   have b91 : E55 68 = .bool w64 := by rw [hw64]; exact eo st hE 68 _
   have b92 := eo st hE 71 (.ptr p28 3)
   have b93 := eo st hE 70 (.int .i64 0)
   have b94 := eo st hE 72 (.ptr p28 3)
   have b95 := eo st hE 75 (.ptr p32 3)
   have b96 := eo st hE 74 (.int .i64 0)
   have b97 := eo st hE 76 (.ptr p32 3)
   have b98 := eo st hE 73 (.flt .f32 v3)
   have b99 := eo st hE 77 (.flt .f32 u3)
   have b100 : E55 78 = .bool w62 := by rw [hw62]; exact eo st hE 78 _
   have b101 := eo st hE 81 (.ptr p28 3)
   have b102 := eo st hE 80 (.int .i64 0)
   have b103 := eo st hE 82 (.ptr p28 3)
   have b104 := eo st hE 83 (.flt .f32 v3)
   have g105 : Grew H22 H55 := (gk st)
   have g106 : Grew H H55 := Grew.trans g50 g105
   have r107 := g105.at r30
   have r108 := g105.at r34
   clear st hE vs ls
   have gd109 : E55 79 = .bool true := by rw [b63]; rw [hw62]; simp only [f56, f57, f58, Bool.not_true, Bool.not_false]
   refine res_kidg (free := false) (d := (some 85)) (f := 78) (args := [.tmp 84]) (g := 79) (b := true) (r := .bool (sgnF v3)) (by kernel_rfl) gd109 ?_ ?_
   ·
    show ACalls _ _ [E55 84] _ _
    rw [b60]
    exact (by rw [hw59]; exact k_Signbit v3 o3 (markX_fin f27 o3 o4 o5).1 H55)
   have q110 := q51.app (.cons k61 (.cons ⟨_, rfl⟩ (.cons ⟨_, rfl⟩ (.cons ⟨_, rfl⟩ (.cons ⟨_, rfl⟩ .nil)))) : KdsL [.f64n, .bool, .bool, .bool, .bool] [.flt .f64 w59, .bool w62, .bool w64, .bool w81, .bool (sgnF v3)])
   refine run_mc (φ := φ0) (pm := pmX 2 [] 5) 20 (ws := [⟨p28, 0, [n2 0, n2 1, n2 2, nF 3, nF 4, nF 5, nF 6, nI 7, nI 8], false⟩, ⟨p32, 0, [n2 9, n2 10, n2 11, nF 12, nF 13, nF 14, nF 15, nI 16, nI 17], false⟩]) (env := [(84, .nd 21 .f64n), (79, .lit (.bool true)), (69, nB 23), (47, .lit (.int .i64 0)), (48, .lit (.bool true)), (49, .lit (.int .i64 0)), (5, .lit (.int .i64 0)), (2, .ptr 0 0), (51, .ptr 0 3), (50, .lit (.int .i64 0)), (52, .ptr 0 3), (3, .ptr 1 0), (55, .ptr 1 3), (54, .lit (.int .i64 0)), (56, .ptr 1 3), (53, nF 3), (57, nF 12), (58, nB 20), (59, nB 24), (61, .ptr 0 3), (60, .lit (.int .i64 0)), (62, .ptr 0 3), (65, .ptr 1 3), (64, .lit (.int .i64 0)), (66, .ptr 1 3), (63, nF 3), (67, nF 12), (68, nB 23), (71, .ptr 0 3), (70, .lit (.int .i64 0)), (72, .ptr 0 3), (75, .ptr 1 3), (74, .lit (.int .i64 0)), (76, .ptr 1 3), (73, nF 3), (77, nF 12), (78, nB 22), (81, .ptr 0 3), (80, .lit (.int .i64 0)), (82, .ptr 0 3), (83, nF 3), (85, nB 25)]) q110 (.cons (wR r107 q110) (.cons (wR r108 q110) .nil)) (sepOk_ro rfl) .nil (eC q110 (.cons (put_ne rfl b60) (.cons (put_ne rfl gd109) (.cons (put_ne rfl b65) (.cons (put_ne rfl b66) (.cons (put_ne rfl b67) (.cons (put_ne rfl b68) (.cons (put_ne rfl b69) (.cons (put_ne rfl b70) (.cons (put_ne rfl b71) (.cons (put_ne rfl b72) (.cons (put_ne rfl b73) (.cons (put_ne rfl b74) (.cons (put_ne rfl b75) (.cons (put_ne rfl b76) (.cons (put_ne rfl b77) (.cons (put_ne rfl b78) (.cons (put_ne rfl b79) (.cons (put_ne rfl b80) (.cons (put_ne rfl b82) (.cons (put_ne rfl b83) (.cons (put_ne rfl b84) (.cons (put_ne rfl b85) (.cons (put_ne rfl b86) (.cons (put_ne rfl b87) (.cons (put_ne rfl b88) (.cons (put_ne rfl b89) (.cons (put_ne rfl b90) (.cons (put_ne rfl b91) (.cons (put_ne rfl b92) (.cons (put_ne rfl b93) (.cons (put_ne rfl b94) (.cons (put_ne rfl b95) (.cons (put_ne rfl b96) (.cons (put_ne rfl b97) (.cons (put_ne rfl b98) (.cons (put_ne rfl b99) (.cons (put_ne rfl b100) (.cons (put_ne rfl b101) (.cons (put_ne rfl b102) (.cons (put_ne rfl b103) (.cons (put_ne rfl b104) (.cons put_same .nil))))))))))))))))))))))))))))))))))))))))))) tbX_ok ap_ok ?_
   refine all2 (by kernel_rfl) ?_ ?_
   ·
    intro vs ls H111 E111 st hE
    have f112 : w64 = true := bf st 0
    clear st hE vs ls
    rw [hw64] at f112
    exact absurd (f57.symm.trans f112) (by decide)
   ·
    intro vs ls H117 E117 st hE
    have f118 : w64 = false := bf st 0
    refine res_ex (by kernel_rfl) (end_flat st.inn hE (.inr rfl) (a := .bool (!(sgnF v3))) (by kernel_rfl) (Grew.trans g106 (gk st)) rfl ⟨?_, rfl⟩)
    unfold betX; rw [f26, f27]
    simp only [betW, atI, f24, f56, f57, f118]
    simp [f23, f25, f58]
  ·
   intro vs ls H119 E119 st hE
   have f120 : (ford .f32 v3 u3 == some .eq) = false := bf st 0
   have f121 : (ford .f32 u3 v3 == some .lt) = false := bf st 1
   have f122 : ¬ (v3 = u3) := df st 2
   refine res_ex (by kernel_rfl) (end_flat st.inn hE (.inr rfl) (a := .bool false) (by kernel_rfl) (Grew.trans g50 (gk st)) rfl ⟨?_, rfl⟩)
   unfold betX; rw [f26, f27]
   simp only [betW, atI, f24, f120, f121]
   simp [f23, f25, f122]
  ·
   intro vs ls H123 E123 st hE
   have f124 : v3 = u3 := dt st 0
   have b125 := eo st hE 53 (.flt .f32 v4)
   have b126 := eo st hE 57 (.flt .f32 u4)
   obtain ⟨w128, hw128⟩ : ∃ z, z = (!(decide (v3 = u3))) := ⟨_, rfl⟩
   have b129 : E123 59 = .bool w128 := by rw [hw128]; exact eo st hE 59 _
   have b130 := eo st hE 5 (.int .i64 1)
   have b131 := eo st hE 2 (.ptr p28 0)
   have b132 := eo st hE 3 (.ptr p32 0)
   have b133 := eo st hE 47 (.int .i64 1)
   have b134 := eo st hE 89 (.int .i64 1)
   have b135 := eo st hE 48 (.bool true)
   have b136 := eo st hE 49 (.int .i64 1)
   have b137 := eo st hE 51 (.ptr p28 3)
   have b138 := eo st hE 50 (.int .i64 1)
   have b139 := eo st hE 52 (.ptr p28 4)
   have b140 := eo st hE 55 (.ptr p32 3)
   have b141 := eo st hE 54 (.int .i64 1)
   have b142 := eo st hE 56 (.ptr p32 4)
   have g143 : Grew H22 H123 := (gk st)
   have g144 : Grew H H123 := Grew.trans g50 g143
   have r145 := g143.at r30
   have r146 := g143.at r34
   clear st hE vs ls
   refine res_kidF (d := (some 58)) (f := 65) (args := [.tmp 53, .tmp 57]) (by kernel_rfl) (R := fun z H' => z = .bool (decide (v4 = u4)) ∧ H' = H123) ?_ ?_
   ·
    show ACalls _ _ [E123 53, E123 57] _ _
    rw [b125, b126]
    exact k_SameNumberX v4 u4 o4 p4 (markX_fin f27 o3 o4 o5).2.1 (markX_fin f26 p3 p4 p5).2.1 H123
   rintro z H123 ⟨rfl, rfl⟩
   have q147 := q51.app (.cons ⟨_, rfl⟩ (.cons ⟨_, rfl⟩ .nil) : KdsL [.bool, .bool] [.bool w128, .bool (decide (v4 = u4))])
   refine run_mc (φ := φ0) (pm := pmX 2 [] 5) 20 (ws := [⟨p28, 0, [n2 0, n2 1, n2 2, nF 3, nF 4, nF 5, nF 6, nI 7, nI 8], false⟩, ⟨p32, 0, [n2 9, n2 10, n2 11, nF 12, nF 13, nF 14, nF 15, nI 16, nI 17], false⟩]) (env := [(53, nF 4), (57, nF 13), (59, nB 21), (5, .lit (.int .i64 1)), (2, .ptr 0 0), (3, .ptr 1 0), (47, .lit (.int .i64 1)), (89, .lit (.int .i64 1)), (48, .lit (.bool true)), (49, .lit (.int .i64 1)), (51, .ptr 0 3), (50, .lit (.int .i64 1)), (52, .ptr 0 4), (55, .ptr 1 3), (54, .lit (.int .i64 1)), (56, .ptr 1 4), (58, nB 22)]) q147 (.cons (wR r145 q147) (.cons (wR r146 q147) .nil)) (sepOk_ro rfl) .nil (eC q147 (.cons (put_ne rfl b125) (.cons (put_ne rfl b126) (.cons (put_ne rfl b129) (.cons (put_ne rfl b130) (.cons (put_ne rfl b131) (.cons (put_ne rfl b132) (.cons (put_ne rfl b133) (.cons (put_ne rfl b134) (.cons (put_ne rfl b135) (.cons (put_ne rfl b136) (.cons (put_ne rfl b137) (.cons (put_ne rfl b138) (.cons (put_ne rfl b139) (.cons (put_ne rfl b140) (.cons (put_ne rfl b141) (.cons (put_ne rfl b142) (.cons put_same .nil)))))))))))))))))) tbX_ok ap_ok ?_
   refine all4 (by kernel_rfl) ?_ ?_ ?_ ?_
   ·
    intro vs ls H148 E148 st hE
    have f149 : (ford .f32 u4 v4 == some .lt) = true := bf st 0
    have f150 : ¬ (v4 = u4) := df st 1
    refine res_ex (by kernel_rfl) (end_flat st.inn hE (.inr rfl) (a := .bool true) (by kernel_rfl) (Grew.trans g144 (gk st)) rfl ⟨?_, rfl⟩)
    unfold betX; rw [f26, f27]
    simp only [betW, atI, f24, f149]
    simp [f23, f25, f124, f150]
   ·
    intro vs ls H151 E151 st hE
    have f152 : (ford .f32 v4 u4 == some .eq) = true := bf st 0
    have f153 : (ford .f32 u4 v4 == some .lt) = false := bf st 1
    have f154 : ¬ (v4 = u4) := df st 2
    obtain ⟨w155, hw155⟩ : ∃ z, z = (wid v4) := ⟨_, rfl⟩
    have b156 : E151 84 = .flt .f64 w155 := by rw [hw155]; exact eo st hE 84 _
    have k157 : HasKd (.f64n) (.flt .f64 w155) := b156 ▸ kd_env st.inn hE 84 (kd := .f64n) (by kernel_rfl)
    obtain ⟨w158, hw158⟩ : ∃ z, z = (ford .f32 v4 u4 == some .eq) := ⟨_, rfl⟩
    have b159 : E151 79 = .bool w158 := by rw [hw158]; exact eo st hE 79 _
    obtain ⟨w160, hw160⟩ : ∃ z, z = (ford .f32 u4 v4 == some .lt) := ⟨_, rfl⟩
    have b161 : E151 69 = .bool w160 := by rw [hw160]; exact eo st hE 69 _
    have b162 := eo st hE 47 (.int .i64 1)
    have b163 := eo st hE 89 (.int .i64 1)
    have b164 := eo st hE 48 (.bool true)
    have b165 := eo st hE 49 (.int .i64 1)
    have b166 := eo st hE 5 (.int .i64 1)
    have b167 := eo st hE 2 (.ptr p28 0)
    have b168 := eo st hE 51 (.ptr p28 3)
    have b169 := eo st hE 50 (.int .i64 1)
    have b170 := eo st hE 52 (.ptr p28 4)
    have b171 := eo st hE 3 (.ptr p32 0)
    have b172 := eo st hE 55 (.ptr p32 3)
    have b173 := eo st hE 54 (.int .i64 1)
    have b174 := eo st hE 56 (.ptr p32 4)
    have b175 := eo st hE 53 (.flt .f32 v4)
    have b176 := eo st hE 57 (.flt .f32 u4)
    have b177 := eo st hE 58 (.bool (decide (v4 = u4)))
    obtain ⟨w178, hw178⟩ : ∃ z, z = (!(decide (v4 = u4))) := ⟨_, rfl⟩
    have b179 : E151 59 = .bool w178 := by rw [hw178]; exact eo st hE 59 _
    have b180 := eo st hE 61 (.ptr p28 3)
    have b181 := eo st hE 60 (.int .i64 1)
    have b182 := eo st hE 62 (.ptr p28 4)
    have b183 := eo st hE 65 (.ptr p32 3)
    have b184 := eo st hE 64 (.int .i64 1)
    have b185 := eo st hE 66 (.ptr p32 4)
    have b186 := eo st hE 63 (.flt .f32 v4)
    have b187 := eo st hE 67 (.flt .f32 u4)
    have b188 : E151 68 = .bool w160 := by rw [hw160]; exact eo st hE 68 _
    have b189 := eo st hE 71 (.ptr p28 3)
    have b190 := eo st hE 70 (.int .i64 1)
    have b191 := eo st hE 72 (.ptr p28 4)
    have b192 := eo st hE 75 (.ptr p32 3)
    have b193 := eo st hE 74 (.int .i64 1)
    have b194 := eo st hE 76 (.ptr p32 4)
    have b195 := eo st hE 73 (.flt .f32 v4)
    have b196 := eo st hE 77 (.flt .f32 u4)
    have b197 : E151 78 = .bool w158 := by rw [hw158]; exact eo st hE 78 _
    have b198 := eo st hE 81 (.ptr p28 3)
    have b199 := eo st hE 80 (.int .i64 1)
    have b200 := eo st hE 82 (.ptr p28 4)
    have b201 := eo st hE 83 (.flt .f32 v4)
    have g202 : Grew H123 H151 := (gk st)
    have g203 : Grew H H151 := Grew.trans g144 g202
    have r204 := g202.at r145
    have r205 := g202.at r146
    clear st hE vs ls
    have gd206 : E151 79 = .bool true := by rw [b159]; rw [hw158]; simp only [f152, f153, f154, Bool.not_true, Bool.not_false]
    refine res_kidg (free := false) (d := (some 85)) (f := 78) (args := [.tmp 84]) (g := 79) (b := true) (r := .bool (sgnF v4)) (by kernel_rfl) gd206 ?_ ?_
    ·
     show ACalls _ _ [E151 84] _ _
     rw [b156]
     exact (by rw [hw155]; exact k_Signbit v4 o4 (markX_fin f27 o3 o4 o5).2.1 H151)
    have q207 := q147.app (.cons k157 (.cons ⟨_, rfl⟩ (.cons ⟨_, rfl⟩ (.cons ⟨_, rfl⟩ (.cons ⟨_, rfl⟩ .nil)))) : KdsL [.f64n, .bool, .bool, .bool, .bool] [.flt .f64 w155, .bool w158, .bool w160, .bool w178, .bool (sgnF v4)])
    refine run_mc (φ := φ0) (pm := pmX 2 [] 5) 20 (ws := [⟨p28, 0, [n2 0, n2 1, n2 2, nF 3, nF 4, nF 5, nF 6, nI 7, nI 8], false⟩, ⟨p32, 0, [n2 9, n2 10, n2 11, nF 12, nF 13, nF 14, nF 15, nI 16, nI 17], false⟩]) (env := [(84, .nd 23 .f64n), (79, .lit (.bool true)), (69, nB 25), (47, .lit (.int .i64 1)), (89, .lit (.int .i64 1)), (48, .lit (.bool true)), (49, .lit (.int .i64 1)), (5, .lit (.int .i64 1)), (2, .ptr 0 0), (51, .ptr 0 3), (50, .lit (.int .i64 1)), (52, .ptr 0 4), (3, .ptr 1 0), (55, .ptr 1 3), (54, .lit (.int .i64 1)), (56, .ptr 1 4), (53, nF 4), (57, nF 13), (58, nB 22), (59, nB 26), (61, .ptr 0 3), (60, .lit (.int .i64 1)), (62, .ptr 0 4), (65, .ptr 1 3), (64, .lit (.int .i64 1)), (66, .ptr 1 4), (63, nF 4), (67, nF 13), (68, nB 25), (71, .ptr 0 3), (70, .lit (.int .i64 1)), (72, .ptr 0 4), (75, .ptr 1 3), (74, .lit (.int .i64 1)), (76, .ptr 1 4), (73, nF 4), (77, nF 13), (78, nB 24), (81, .ptr 0 3), (80, .lit (.int .i64 1)), (82, .ptr 0 4), (83, nF 4), (85, nB 27)]) q207 (.cons (wR r204 q207) (.cons (wR r205 q207) .nil)) (sepOk_ro rfl) .nil (eC q207 (.cons (put_ne rfl b156) (.cons (put_ne rfl gd206) (.cons (put_ne rfl b161) (.cons (put_ne rfl b162) (.cons (put_ne rfl b163) (.cons (put_ne rfl b164) (.cons (put_ne rfl b165) (.cons (put_ne rfl b166) (.cons (put_ne rfl b167) (.cons (put_ne rfl b168) (.cons (put_ne rfl b169) (.cons (put_ne rfl b170) (.cons (put_ne rfl b171) (.cons (put_ne rfl b172) (.cons (put_ne rfl b173) (.cons (put_ne rfl b174) (.cons (put_ne rfl b175) (.cons (put_ne rfl b176) (.cons (put_ne rfl b177) (.cons (put_ne rfl b179) (.cons (put_ne rfl b180) (.cons (put_ne rfl b181) (.cons (put_ne rfl b182) (.cons (put_ne rfl b183) (.cons (put_ne rfl b184) (.cons (put_ne rfl b185) (.cons (put_ne rfl b186) (.cons (put_ne rfl b187) (.cons (put_ne rfl b188) (.cons (put_ne rfl b189) (.cons (put_ne rfl b190) (.cons (put_ne rfl b191) (.cons (put_ne rfl b192) (.cons (put_ne rfl b193) (.cons (put_ne rfl b194) (.cons (put_ne rfl b195) (.cons (put_ne rfl b196) (.cons (put_ne rfl b197) (.cons (put_ne rfl b198) (.cons (put_ne rfl b199) (.cons (put_ne rfl b200) (.cons (put_ne rfl b201) (.cons put_same .nil)))))))))))))))))))))))))))))))))))))))))))) tbX_ok ap_ok ?_
    refine all2 (by kernel_rfl) ?_ ?_
    ·
     intro vs ls H208 E208 st hE
     have f209 : w160 = true := bf st 0
     clear st hE vs ls
     rw [hw160] at f209
     exact absurd (f153.symm.trans f209) (by decide)
    ·
     intro vs ls H214 E214 st hE
     have f215 : w160 = false := bf st 0
     refine res_ex (by kernel_rfl) (end_flat st.inn hE (.inr rfl) (a := .bool (!(sgnF v4))) (by kernel_rfl) (Grew.trans g203 (gk st)) rfl ⟨?_, rfl⟩)
     unfold betX; rw [f26, f27]
     simp only [betW, atI, f24, f152, f153, f215]
     simp [f23, f25, f124, f154]
   ·
    intro vs ls H216 E216 st hE
    have f217 : (ford .f32 v4 u4 == some .eq) = false := bf st 0
    have f218 : (ford .f32 u4 v4 == some .lt) = false := bf st 1
    have f219 : ¬ (v4 = u4) := df st 2
    refine res_ex (by kernel_rfl) (end_flat st.inn hE (.inr rfl) (a := .bool false) (by kernel_rfl) (Grew.trans g144 (gk st)) rfl ⟨?_, rfl⟩)
    unfold betX; rw [f26, f27]
    simp only [betW, atI, f24, f217, f218]
    simp [f23, f25, f124, f219]
   ·
    intro vs ls H220 E220 st hE
    have f221 : v4 = u4 := dt st 0
    have b222 := eo st hE 53 (.flt .f32 v5)
    have b223 := eo st hE 57 (.flt .f32 u5)
    obtain ⟨w225, hw225⟩ : ∃ z, z = (!(decide (v4 = u4))) := ⟨_, rfl⟩
    have b226 : E220 59 = .bool w225 := by rw [hw225]; exact eo st hE 59 _
    have b227 := eo st hE 5 (.int .i64 2)
    have b228 := eo st hE 2 (.ptr p28 0)
    have b229 := eo st hE 3 (.ptr p32 0)
    have b230 := eo st hE 47 (.int .i64 2)
    have b231 := eo st hE 89 (.int .i64 2)
    have b232 := eo st hE 48 (.bool true)
    have b233 := eo st hE 49 (.int .i64 2)
    have b234 := eo st hE 51 (.ptr p28 3)
    have b235 := eo st hE 50 (.int .i64 2)
    have b236 := eo st hE 52 (.ptr p28 5)
    have b237 := eo st hE 55 (.ptr p32 3)
    have b238 := eo st hE 54 (.int .i64 2)
    have b239 := eo st hE 56 (.ptr p32 5)
    have g240 : Grew H123 H220 := (gk st)
    have g241 : Grew H H220 := Grew.trans g144 g240
    have r242 := g240.at r145
    have r243 := g240.at r146
    clear st hE vs ls
    refine res_kidF (d := (some 58)) (f := 65) (args := [.tmp 53, .tmp 57]) (by kernel_rfl) (R := fun z H' => z = .bool (decide (v5 = u5)) ∧ H' = H220) ?_ ?_
    ·
     show ACalls _ _ [E220 53, E220 57] _ _
     rw [b222, b223]
     exact k_SameNumberX v5 u5 o5 p5 (markX_fin f27 o3 o4 o5).2.2 (markX_fin f26 p3 p4 p5).2.2 H220
    rintro z H220 ⟨rfl, rfl⟩
    have q244 := q147.app (.cons ⟨_, rfl⟩ (.cons ⟨_, rfl⟩ .nil) : KdsL [.bool, .bool] [.bool w225, .bool (decide (v5 = u5))])
    refine run_mc (φ := φ0) (pm := pmX 2 [] 5) 20 (ws := [⟨p28, 0, [n2 0, n2 1, n2 2, nF 3, nF 4, nF 5, nF 6, nI 7, nI 8], false⟩, ⟨p32, 0, [n2 9, n2 10, n2 11, nF 12, nF 13, nF 14, nF 15, nI 16, nI 17], false⟩]) (env := [(53, nF 5), (57, nF 14), (59, nB 23), (5, .lit (.int .i64 2)), (2, .ptr 0 0), (3, .ptr 1 0), (47, .lit (.int .i64 2)), (89, .lit (.int .i64 2)), (48, .lit (.bool true)), (49, .lit (.int .i64 2)), (51, .ptr 0 3), (50, .lit (.int .i64 2)), (52, .ptr 0 5), (55, .ptr 1 3), (54, .lit (.int .i64 2)), (56, .ptr 1 5), (58, nB 24)]) q244 (.cons (wR r242 q244) (.cons (wR r243 q244) .nil)) (sepOk_ro rfl) .nil (eC q244 (.cons (put_ne rfl b222) (.cons (put_ne rfl b223) (.cons (put_ne rfl b226) (.cons (put_ne rfl b227) (.cons (put_ne rfl b228) (.cons (put_ne rfl b229) (.cons (put_ne rfl b230) (.cons (put_ne rfl b231) (.cons (put_ne rfl b232) (.cons (put_ne rfl b233) (.cons (put_ne rfl b234) (.cons (put_ne rfl b235) (.cons (put_ne rfl b236) (.cons (put_ne rfl b237) (.cons (put_ne rfl b238) (.cons (put_ne rfl b239) (.cons put_same .nil)))))))))))))))))) tbX_ok ap_ok ?_
    refine all4 (by kernel_rfl) ?_ ?_ ?_ ?_
    ·
     intro vs ls H245 E245 st hE
     have f246 : (ford .f32 u5 v5 == some .lt) = true := bf st 0
     have f247 : ¬ (v5 = u5) := df st 1
     refine res_ex (by kernel_rfl) (end_flat st.inn hE (.inr rfl) (a := .bool true) (by kernel_rfl) (Grew.trans g241 (gk st)) rfl ⟨?_, rfl⟩)
     unfold betX; rw [f26, f27]
     simp only [betW, atI, f24, f246]
     simp [f23, f25, f124, f221, f247]
    ·
     intro vs ls H248 E248 st hE
     have f249 : (ford .f32 v5 u5 == some .eq) = true := bf st 0
     have f250 : (ford .f32 u5 v5 == some .lt) = false := bf st 1
     have f251 : ¬ (v5 = u5) := df st 2
     obtain ⟨w252, hw252⟩ : ∃ z, z = (wid v5) := ⟨_, rfl⟩
     have b253 : E248 84 = .flt .f64 w252 := by rw [hw252]; exact eo st hE 84 _
     have k254 : HasKd (.f64n) (.flt .f64 w252) := b253 ▸ kd_env st.inn hE 84 (kd := .f64n) (by kernel_rfl)
     obtain ⟨w255, hw255⟩ : ∃ z, z = (ford .f32 v5 u5 == some .eq) := ⟨_, rfl⟩
     have b256 : E248 79 = .bool w255 := by rw [hw255]; exact eo st hE 79 _
     obtain ⟨w257, hw257⟩ : ∃ z, z = (ford .f32 u5 v5 == some .lt) := ⟨_, rfl⟩
     have b258 : E248 69 = .bool w257 := by rw [hw257]; exact eo st hE 69 _
     have b259 := eo st hE 47 (.int .i64 2)
     have b260 := eo st hE 89 (.int .i64 2)
     have b261 := eo st hE 48 (.bool true)
     have b262 := eo st hE 49 (.int .i64 2)
     have b263 := eo st hE 5 (.int .i64 2)
     have b264 := eo st hE 2 (.ptr p28 0)
     have b265 := eo st hE 51 (.ptr p28 3)
     have b266 := eo st hE 50 (.int .i64 2)
     have b267 := eo st hE 52 (.ptr p28 5)
     have b268 := eo st hE 3 (.ptr p32 0)
     have b269 := eo st hE 55 (.ptr p32 3)
     have b270 := eo st hE 54 (.int .i64 2)
     have b271 := eo st hE 56 (.ptr p32 5)
     have b272 := eo st hE 53 (.flt .f32 v5)
     have b273 := eo st hE 57 (.flt .f32 u5)
     have b274 := eo st hE 58 (.bool (decide (v5 = u5)))
     obtain ⟨w275, hw275⟩ : ∃ z, z = (!(decide (v5 = u5))) := ⟨_, rfl⟩
     have b276 : E248 59 = .bool w275 := by rw [hw275]; exact eo st hE 59 _
     have b277 := eo st hE 61 (.ptr p28 3)
     have b278 := eo st hE 60 (.int .i64 2)
     have b279 := eo st hE 62 (.ptr p28 5)
     have b280 := eo st hE 65 (.ptr p32 3)
     have b281 := eo st hE 64 (.int .i64 2)
     have b282 := eo st hE 66 (.ptr p32 5)
     have b283 := eo st hE 63 (.flt .f32 v5)
     have b284 := eo st hE 67 (.flt .f32 u5)
     have b285 : E248 68 = .bool w257 := by rw [hw257]; exact eo st hE 68 _
     have b286 := eo st hE 71 (.ptr p28 3)
     have b287 := eo st hE 70 (.int .i64 2)
     have b288 := eo st hE 72 (.ptr p28 5)
     have b289 := eo st hE 75 (.ptr p32 3)
     have b290 := eo st hE 74 (.int .i64 2)
     have b291 := eo st hE 76 (.ptr p32 5)
     have b292 := eo st hE 73 (.flt .f32 v5)
     have b293 := eo st hE 77 (.flt .f32 u5)
     have b294 : E248 78 = .bool w255 := by rw [hw255]; exact eo st hE 78 _
     have b295 := eo st hE 81 (.ptr p28 3)
     have b296 := eo st hE 80 (.int .i64 2)
     have b297 := eo st hE 82 (.ptr p28 5)
     have b298 := eo st hE 83 (.flt .f32 v5)
     have g299 : Grew H220 H248 := (gk st)
     have g300 : Grew H H248 := Grew.trans g241 g299
     have r301 := g299.at r242
     have r302 := g299.at r243
     clear st hE vs ls
     have gd303 : E248 79 = .bool true := by rw [b256]; rw [hw255]; simp only [f249, f250, f251, Bool.not_true, Bool.not_false]
     refine res_kidg (free := false) (d := (some 85)) (f := 78) (args := [.tmp 84]) (g := 79) (b := true) (r := .bool (sgnF v5)) (by kernel_rfl) gd303 ?_ ?_
     ·
      show ACalls _ _ [E248 84] _ _
      rw [b253]
      exact (by rw [hw252]; exact k_Signbit v5 o5 (markX_fin f27 o3 o4 o5).2.2 H248)
     have q304 := q244.app (.cons k254 (.cons ⟨_, rfl⟩ (.cons ⟨_, rfl⟩ (.cons ⟨_, rfl⟩ (.cons ⟨_, rfl⟩ .nil)))) : KdsL [.f64n, .bool, .bool, .bool, .bool] [.flt .f64 w252, .bool w255, .bool w257, .bool w275, .bool (sgnF v5)])
     refine run_mc (φ := φ0) (pm := pmX 2 [] 5) 20 (ws := [⟨p28, 0, [n2 0, n2 1, n2 2, nF 3, nF 4, nF 5, nF 6, nI 7, nI 8], false⟩, ⟨p32, 0, [n2 9, n2 10, n2 11, nF 12, nF 13, nF 14, nF 15, nI 16, nI 17], false⟩]) (env := [(84, .nd 25 .f64n), (79, .lit (.bool true)), (69, nB 27), (47, .lit (.int .i64 2)), (89, .lit (.int .i64 2)), (48, .lit (.bool true)), (49, .lit (.int .i64 2)), (5, .lit (.int .i64 2)), (2, .ptr 0 0), (51, .ptr 0 3), (50, .lit (.int .i64 2)), (52, .ptr 0 5), (3, .ptr 1 0), (55, .ptr 1 3), (54, .lit (.int .i64 2)), (56, .ptr 1 5), (53, nF 5), (57, nF 14), (58, nB 24), (59, nB 28), (61, .ptr 0 3), (60, .lit (.int .i64 2)), (62, .ptr 0 5), (65, .ptr 1 3), (64, .lit (.int .i64 2)), (66, .ptr 1 5), (63, nF 5), (67, nF 14), (68, nB 27), (71, .ptr 0 3), (70, .lit (.int .i64 2)), (72, .ptr 0 5), (75, .ptr 1 3), (74, .lit (.int .i64 2)), (76, .ptr 1 5), (73, nF 5), (77, nF 14), (78, nB 26), (81, .ptr 0 3), (80, .lit (.int .i64 2)), (82, .ptr 0 5), (83, nF 5), (85, nB 29)]) q304 (.cons (wR r301 q304) (.cons (wR r302 q304) .nil)) (sepOk_ro rfl) .nil (eC q304 (.cons (put_ne rfl b253) (.cons (put_ne rfl gd303) (.cons (put_ne rfl b258) (.cons (put_ne rfl b259) (.cons (put_ne rfl b260) (.cons (put_ne rfl b261) (.cons (put_ne rfl b262) (.cons (put_ne rfl b263) (.cons (put_ne rfl b264) (.cons (put_ne rfl b265) (.cons (put_ne rfl b266) (.cons (put_ne rfl b267) (.cons (put_ne rfl b268) (.cons (put_ne rfl b269) (.cons (put_ne rfl b270) (.cons (put_ne rfl b271) (.cons (put_ne rfl b272) (.cons (put_ne rfl b273) (.cons (put_ne rfl b274) (.cons (put_ne rfl b276) (.cons (put_ne rfl b277) (.cons (put_ne rfl b278) (.cons (put_ne rfl b279) (.cons (put_ne rfl b280) (.cons (put_ne rfl b281) (.cons (put_ne rfl b282) (.cons (put_ne rfl b283) (.cons (put_ne rfl b284) (.cons (put_ne rfl b285) (.cons (put_ne rfl b286) (.cons (put_ne rfl b287) (.cons (put_ne rfl b288) (.cons (put_ne rfl b289) (.cons (put_ne rfl b290) (.cons (put_ne rfl b291) (.cons (put_ne rfl b292) (.cons (put_ne rfl b293) (.cons (put_ne rfl b294) (.cons (put_ne rfl b295) (.cons (put_ne rfl b296) (.cons (put_ne rfl b297) (.cons (put_ne rfl b298) (.cons put_same .nil)))))))))))))))))))))))))))))))))))))))))))) tbX_ok ap_ok ?_
     refine all2 (by kernel_rfl) ?_ ?_
     ·
      intro vs ls H305 E305 st hE
      have f306 : w257 = true := bf st 0
      clear st hE vs ls
      rw [hw257] at f306
      exact absurd (f250.symm.trans f306) (by decide)
     ·
      intro vs ls H311 E311 st hE
      have f312 : w257 = false := bf st 0
      refine res_ex (by kernel_rfl) (end_flat st.inn hE (.inr rfl) (a := .bool (!(sgnF v5))) (by kernel_rfl) (Grew.trans g300 (gk st)) rfl ⟨?_, rfl⟩)
      unfold betX; rw [f26, f27]
      simp only [betW, atI, f24, f249, f250, f312]
      simp [f23, f25, f124, f221, f251]
    ·
     intro vs ls H313 E313 st hE
     have f314 : (ford .f32 v5 u5 == some .eq) = false := bf st 0
     have f315 : (ford .f32 u5 v5 == some .lt) = false := bf st 1
     have f316 : ¬ (v5 = u5) := df st 2
     refine res_ex (by kernel_rfl) (end_flat st.inn hE (.inr rfl) (a := .bool false) (by kernel_rfl) (Grew.trans g241 (gk st)) rfl ⟨?_, rfl⟩)
     unfold betX; rw [f26, f27]
     simp only [betW, atI, f24, f314, f315]
     simp [f23, f25, f124, f221, f316]
    ·
     intro vs ls H317 E317 st hE
     have f318 : v5 = u5 := dt st 0
     refine res_ex (by kernel_rfl) (end_flat st.inn hE (.inr rfl) (a := .bool false) (by kernel_rfl) (Grew.trans g241 (gk st)) rfl ⟨?_, rfl⟩)
     unfold betX; rw [f26, f27]
     simp only [betW, atI, f24]
     simp [f23, f25, f124, f221, f318]
theorem k_l05Better (v0 v1 v2 : Int) (v3 v4 v5 v6 : Option Nat) (v7 v8 : Int) (o3 : fOk .f32 v3) (o4 : fOk .f32 v4) (o5 : fOk .f32 v5) (o6 : fOk .f32 v6) (u0 u1 u2 : Int) (u3 u4 u5 u6 : Option Nat) (u7 u8 : Int) (p3 : fOk .f32 u3) (p4 : fOk .f32 u4) (p5 : fOk .f32 u5) (p6 : fOk .f32 u6) (sv3 : v3.isSome = true) (sv4 : v4.isSome = true) (sv5 : v5.isSome = true) (su3 : u3.isSome = true) (su4 : u4.isSome = true) (su5 : u5.isSome = true) (H : AHeap) (l off : Nat) (pre post : List AV) (wr : Bool) (hg : H.get l = some (.row (pre ++ ([.int .i32 v0, .int .i32 v1, .int .i32 v2, .flt .f32 v3, .flt .f32 v4, .flt .f32 v5, .flt .f32 v6, .int .i64 v7, .int .i64 v8] ++ post)) wr)) (hp : pre.length = off) (l' off' : Nat) (pre' post' : List AV) (wr' : Bool) (hg' : H.get l' = some (.row (pre' ++ ([.int .i32 u0, .int .i32 u1, .int .i32 u2, .flt .f32 u3, .flt .f32 u4, .flt .f32 u5, .flt .f32 u6, .int .i64 u7, .int .i64 u8] ++ post')) wr')) (hp' : pre'.length = off') : APure Try.prog 54 [.ptr l off, .ptr l' off'] H (.bool (betW atP [.int .i32 v0, .int .i32 v1, .int .i32 v2, .flt .f32 v3, .flt .f32 v4, .flt .f32 v5, .flt .f32 v6, .int .i64 v7, .int .i64 v8] [.int .i32 u0, .int .i32 u1, .int .i32 u2, .flt .f32 u3, .flt .f32 u4, .flt .f32 u5, .flt .f32 u6, .int .i64 u7, .int .i64 u8])) := by
 refine res_start h_spec_l05Better (by simp) ?_
 have q1 : KdsL [K2, K2, K2, KF, KF, KF, KF, KI, KI, K2, K2, K2, KF, KF, KF, KF, KI, KI] [.int .i32 v0, .int .i32 v1, .int .i32 v2, .flt .f32 v3, .flt .f32 v4, .flt .f32 v5, .flt .f32 v6, .int .i64 v7, .int .i64 v8, .int .i32 u0, .int .i32 u1, .int .i32 u2, .flt .f32 u3, .flt .f32 u4, .flt .f32 u5, .flt .f32 u6, .int .i64 u7, .int .i64 u8] := .cons ⟨_, rfl⟩ (.cons ⟨_, rfl⟩ (.cons ⟨_, rfl⟩ (.cons ⟨_, rfl, o3⟩ (.cons ⟨_, rfl, o4⟩ (.cons ⟨_, rfl, o5⟩ (.cons ⟨_, rfl, o6⟩ (.cons ⟨_, rfl⟩ (.cons ⟨_, rfl⟩ (.cons ⟨_, rfl⟩ (.cons ⟨_, rfl⟩ (.cons ⟨_, rfl⟩ (.cons ⟨_, rfl, p3⟩ (.cons ⟨_, rfl, p4⟩ (.cons ⟨_, rfl, p5⟩ (.cons ⟨_, rfl, p6⟩ (.cons ⟨_, rfl⟩ (.cons ⟨_, rfl⟩ .nil)))))))))))))))))
 refine run_mc (φ := φ0) (pm := pmX 2 [] 5) 20 (ws := [⟨l, off, [n2 0, n2 1, n2 2, nF 3, nF 4, nF 5, nF 6, nI 7, nI 8], false⟩, ⟨l', off', [n2 9, n2 10, n2 11, nF 12, nF 13, nF 14, nF 15, nI 16, nI 17], false⟩]) (env := [(0, .ptr 0 0), (1, .ptr 1 0)]) q1 (.cons (win_mid hg hp (dL q1)) (.cons (win_mid hg' hp' (dL q1)) .nil)) (sepOk_ro rfl) .nil (eC q1 (.cons (t := 0) rfl (.cons (t := 1) rfl .nil))) tbX_ok ap_ok ?_
 refine all5 (by kernel_rfl) ?_ ?_ ?_ ?_ ?_
 ·
  intro vs ls H2 E2 st hE
  have f3 : ¬ (v8 = u8) := df st 0
  refine res_ex (by kernel_rfl) (end_flat st.inn hE (.inr rfl) (a := .bool (decide (u8 < v8))) (by kernel_rfl) (Grew.trans (Grew.refl _) (gk st)) rfl ⟨?_, rfl⟩)
  simp only [betW, atP]
  simp [f3]
 ·
  intro vs ls H4 E4 st hE
  have f5 : (ford .f32 v6 u6 == some .eq) = false := bf st 0
  have f6 : v8 = u8 := dt st 1
  refine res_ex (by kernel_rfl) (end_flat st.inn hE (.inr rfl) (a := .bool (ford .f32 u6 v6 == some .lt)) (by kernel_rfl) (Grew.trans (Grew.refl _) (gk st)) rfl ⟨?_, rfl⟩)
  simp only [betW, atP, f5]
  simp [f6]
 ·
  intro vs ls H7 E7 st hE
  have f8 : ¬ (v7 = u7) := df st 0
  have f9 : (ford .f32 v6 u6 == some .eq) = true := bf st 1
  have f10 : v8 = u8 := dt st 2
  refine res_ex (by kernel_rfl) (end_flat st.inn hE (.inr rfl) (a := .bool (decide (u7 < v7))) (by kernel_rfl) (Grew.trans (Grew.refl _) (gk st)) rfl ⟨?_, rfl⟩)
  simp only [betW, atP, f9]
  simp [f8, f10]
 ·
  intro vs ls H11 E11 st hE
  have f12 : (ford .f32 v3 u3 == some .eq) = false := bf st 0
  have f13 : v7 = u7 := dt st 1
  have f14 : (ford .f32 v6 u6 == some .eq) = true := bf st 2
  have f15 : v8 = u8 := dt st 3
  refine res_ex (by kernel_rfl) (end_flat st.inn hE (.inr rfl) (a := .bool (ford .f32 u3 v3 == some .lt)) (by kernel_rfl) (Grew.trans (Grew.refl _) (gk st)) rfl ⟨?_, rfl⟩)
  simp only [betW, atP, f12, f14]
  simp [f13, f15]
 ·
  intro vs ls H16 E16 st hE
  have f17 : (ford .f32 v3 u3 == some .eq) = true := bf st 0
  have f18 : v7 = u7 := dt st 1
  have f19 : (ford .f32 v6 u6 == some .eq) = true := bf st 2
  have f20 : v8 = u8 := dt st 3
  have b21 := eo st hE 95 (.flt .f32 v3)
  have b22 := eo st hE 101 (.flt .f32 u3)
  have b23 := eo st hE 0 (.ptr l (off + 0))
  have b24 := eo st hE 5 (.int .i64 0)
  have b25 := eo st hE 60 (.int .i64 0)
  have b26 := eo st hE 61 (.bool true)
  have b27 := eo st hE 64 (.ptr l (off + 0))
  have b28 := eo st hE 66 (.ptr l (off + 0))
  have b29 := eo st hE 67 (.ptr l (off + 3))
  have b30 := eo st hE 65 (.int .i64 0)
  have b31 := eo st hE 68 (.ptr l (off + 3))
  have b32 := eo st hE 1 (.ptr l' (off' + 0))
  have b33 := eo st hE 70 (.ptr l' (off' + 0))
  have b34 := eo st hE 72 (.ptr l' (off' + 0))
  have b35 := eo st hE 73 (.ptr l' (off' + 3))
  have b36 := eo st hE 71 (.int .i64 0)
  have b37 := eo st hE 74 (.ptr l' (off' + 3))
  have b38 := eo st hE 69 (.flt .f32 v3)
  have b39 := eo st hE 75 (.flt .f32 u3)
  obtain ⟨w40, hw40⟩ : ∃ z, z = (!(ford .f32 v3 u3 == some .eq)) := ⟨_, rfl⟩
  have b41 : E16 76 = .bool w40 := by rw [hw40]; exact eo st hE 76 _
  have b42 := eo st hE 90 (.ptr l (off + 0))
  have b43 := eo st hE 92 (.ptr l (off + 0))
  have b44 := eo st hE 93 (.ptr l (off + 3))
  have b45 := eo st hE 91 (.int .i64 0)
  have b46 := eo st hE 94 (.ptr l (off + 3))
  have b47 := eo st hE 96 (.ptr l' (off' + 0))
  have b48 := eo st hE 98 (.ptr l' (off' + 0))
  have b49 := eo st hE 99 (.ptr l' (off' + 3))
  have b50 := eo st hE 97 (.int .i64 0)
  have b51 := eo st hE 100 (.ptr l' (off' + 3))
  have g52 : Grew H H16 := (gk st)
  have g53 : Grew H H16 := Grew.trans (Grew.refl _) g52
  have r54 := g52.at hg
  have r55 := g52.at hg'
  clear st hE vs ls
  refine res_kidF (d := (some 102)) (f := 74) (args := [.tmp 95, .tmp 101]) (by kernel_rfl) (R := fun z H' => z = .bool (decide (v3 = u3)) ∧ H' = H16) ?_ ?_
  ·
   show ACalls _ _ [E16 95, E16 101] _ _
   rw [b21, b22]
   exact k_l01SameX v3 u3 o3 p3 sv3 su3 H16
  rintro z H16 ⟨rfl, rfl⟩
  have q56 := q1.app (.cons ⟨_, rfl⟩ (.cons ⟨_, rfl⟩ .nil) : KdsL [.bool, .bool] [.bool w40, .bool (decide (v3 = u3))])
  refine run_mc (φ := φ0) (pm := pmX 2 [] 5) 20 (ws := [⟨l, off, [n2 0, n2 1, n2 2, nF 3, nF 4, nF 5, nF 6, nI 7, nI 8], false⟩, ⟨l', off', [n2 9, n2 10, n2 11, nF 12, nF 13, nF 14, nF 15, nI 16, nI 17], false⟩]) (env := [(95, nF 3), (101, nF 12), (0, .ptr 0 0), (5, .lit (.int .i64 0)), (60, .lit (.int .i64 0)), (61, .lit (.bool true)), (64, .ptr 0 0), (66, .ptr 0 0), (67, .ptr 0 3), (65, .lit (.int .i64 0)), (68, .ptr 0 3), (1, .ptr 1 0), (70, .ptr 1 0), (72, .ptr 1 0), (73, .ptr 1 3), (71, .lit (.int .i64 0)), (74, .ptr 1 3), (69, nF 3), (75, nF 12), (76, nB 18), (90, .ptr 0 0), (92, .ptr 0 0), (93, .ptr 0 3), (91, .lit (.int .i64 0)), (94, .ptr 0 3), (96, .ptr 1 0), (98, .ptr 1 0), (99, .ptr 1 3), (97, .lit (.int .i64 0)), (100, .ptr 1 3), (102, nB 19)]) q56 (.cons (win_mid r54 hp (dL q56)) (.cons (win_mid r55 hp' (dL q56)) .nil)) (sepOk_ro rfl) .nil (eC q56 (.cons (put_ne rfl b21) (.cons (put_ne rfl b22) (.cons (put_ne rfl b23) (.cons (put_ne rfl b24) (.cons (put_ne rfl b25) (.cons (put_ne rfl b26) (.cons (put_ne rfl b27) (.cons (put_ne rfl b28) (.cons (put_ne rfl b29) (.cons (put_ne rfl b30) (.cons (put_ne rfl b31) (.cons (put_ne rfl b32) (.cons (put_ne rfl b33) (.cons (put_ne rfl b34) (.cons (put_ne rfl b35) (.cons (put_ne rfl b36) (.cons (put_ne rfl b37) (.cons (put_ne rfl b38) (.cons (put_ne rfl b39) (.cons (put_ne rfl b41) (.cons (put_ne rfl b42) (.cons (put_ne rfl b43) (.cons (put_ne rfl b44) (.cons (put_ne rfl b45) (.cons (put_ne rfl b46) (.cons (put_ne rfl b47) (.cons (put_ne rfl b48) (.cons (put_ne rfl b49) (.cons (put_ne rfl b50) (.cons (put_ne rfl b51) (.cons put_same .nil)))))))))))))))))))))))))))))))) tbX_ok ap_ok ?_
  refine all3 (by kernel_rfl) ?_ ?_ ?_
  ·
   intro vs ls H57 E57 st hE
   have f58 : ¬ (v3 = u3) := df st 0
   have b59 := eo st hE 109 (.flt .f32 v3)
   have b60 := eo st hE 5 (.int .i64 0)
   have b61 := eo st hE 60 (.int .i64 0)
   have b62 := eo st hE 61 (.bool true)
   have b63 := eo st hE 0 (.ptr l (off + 0))
   have b64 := eo st hE 64 (.ptr l (off + 0))
   have b65 := eo st hE 66 (.ptr l (off + 0))
   have b66 := eo st hE 67 (.ptr l (off + 3))
   have b67 := eo st hE 65 (.int .i64 0)
   have b68 := eo st hE 68 (.ptr l (off + 3))
   have b69 := eo st hE 1 (.ptr l' (off' + 0))
   have b70 := eo st hE 70 (.ptr l' (off' + 0))
   have b71 := eo st hE 72 (.ptr l' (off' + 0))
   have b72 := eo st hE 73 (.ptr l' (off' + 3))
   have b73 := eo st hE 71 (.int .i64 0)
   have b74 := eo st hE 74 (.ptr l' (off' + 3))
   have b75 := eo st hE 69 (.flt .f32 v3)
   have b76 := eo st hE 75 (.flt .f32 u3)
   have b77 := eo st hE 76 (.bool w40)
   have b78 := eo st hE 90 (.ptr l (off + 0))
   have b79 := eo st hE 92 (.ptr l (off + 0))
   have b80 := eo st hE 93 (.ptr l (off + 3))
   have b81 := eo st hE 91 (.int .i64 0)
   have b82 := eo st hE 94 (.ptr l (off + 3))
   have b83 := eo st hE 96 (.ptr l' (off' + 0))
   have b84 := eo st hE 98 (.ptr l' (off' + 0))
   have b85 := eo st hE 99 (.ptr l' (off' + 3))
   have b86 := eo st hE 97 (.int .i64 0)
   have b87 := eo st hE 100 (.ptr l' (off' + 3))
   have b88 := eo st hE 95 (.flt .f32 v3)
   have b89 := eo st hE 101 (.flt .f32 u3)
   have b90 := eo st hE 102 (.bool (decide (v3 = u3)))
   obtain ⟨w91, hw91⟩ : ∃ z, z = (!(decide (v3 = u3))) := ⟨_, rfl⟩
   have b92 : E57 103 = .bool w91 := by rw [hw91]; exact eo st hE 103 _
   have b93 := eo st hE 104 (.ptr l (off + 0))
   have b94 := eo st hE 106 (.ptr l (off + 0))
   have b95 := eo st hE 107 (.ptr l (off + 3))
   have b96 := eo st hE 105 (.int .i64 0)
   have b97 := eo st hE 108 (.ptr l (off + 3))
   have g98 : Grew H16 H57 := (gk st)
   have g99 : Grew H H57 := Grew.trans g53 g98
   have r100 := g98.at r54
   have r101 := g98.at r55
   clear st hE vs ls
   refine res_call (d := (some 110)) (f := 74) (args := [.tmp 109, .const (.flt .f32 (some 0))]) (by kernel_rfl) (R := fun z H' => z = .bool (decide (v3 = (some 0))) ∧ H' = H57) ?_ ?_
   ·
    show ACalls _ _ [E57 109, .flt .f32 (some 0)] _ _
    rw [b59]
    exact k_l01SameX v3 (some 0) o3 (fun b e => by cases e; exact ⟨by decide +kernel, by decide +kernel⟩) sv3 rfl H57
   rintro z H57 ⟨rfl, rfl⟩
   have q102 := q56.app (.cons ⟨_, rfl⟩ (.cons ⟨_, rfl⟩ .nil) : KdsL [.bool, .bool] [.bool w91, .bool (decide (v3 = (some 0)))])
   refine run_mc (φ := φ0) (pm := pmX 2 [] 5) 20 (ws := [⟨l, off, [n2 0, n2 1, n2 2, nF 3, nF 4, nF 5, nF 6, nI 7, nI 8], false⟩, ⟨l', off', [n2 9, n2 10, n2 11, nF 12, nF 13, nF 14, nF 15, nI 16, nI 17], false⟩]) (env := [(109, nF 3), (5, .lit (.int .i64 0)), (60, .lit (.int .i64 0)), (61, .lit (.bool true)), (0, .ptr 0 0), (64, .ptr 0 0), (66, .ptr 0 0), (67, .ptr 0 3), (65, .lit (.int .i64 0)), (68, .ptr 0 3), (1, .ptr 1 0), (70, .ptr 1 0), (72, .ptr 1 0), (73, .ptr 1 3), (71, .lit (.int .i64 0)), (74, .ptr 1 3), (69, nF 3), (75, nF 12), (76, nB 18), (90, .ptr 0 0), (92, .ptr 0 0), (93, .ptr 0 3), (91, .lit (.int .i64 0)), (94, .ptr 0 3), (96, .ptr 1 0), (98, .ptr 1 0), (99, .ptr 1 3), (97, .lit (.int .i64 0)), (100, .ptr 1 3), (95, nF 3), (101, nF 12), (102, nB 19), (103, nB 20), (104, .ptr 0 0), (106, .ptr 0 0), (107, .ptr 0 3), (105, .lit (.int .i64 0)), (108, .ptr 0 3), (110, nB 21)]) q102 (.cons (win_mid r100 hp (dL q102)) (.cons (win_mid r101 hp' (dL q102)) .nil)) (sepOk_ro rfl) .nil (eC q102 (.cons (put_ne rfl b59) (.cons (put_ne rfl b60) (.cons (put_ne rfl b61) (.cons (put_ne rfl b62) (.cons (put_ne rfl b63) (.cons (put_ne rfl b64) (.cons (put_ne rfl b65) (.cons (put_ne rfl b66) (.cons (put_ne rfl b67) (.cons (put_ne rfl b68) (.cons (put_ne rfl b69) (.cons (put_ne rfl b70) (.cons (put_ne rfl b71) (.cons (put_ne rfl b72) (.cons (put_ne rfl b73) (.cons (put_ne rfl b74) (.cons (put_ne rfl b75) (.cons (put_ne rfl b76) (.cons (put_ne rfl b77) (.cons (put_ne rfl b78) (.cons (put_ne rfl b79) (.cons (put_ne rfl b80) (.cons (put_ne rfl b81) (.cons (put_ne rfl b82) (.cons (put_ne rfl b83) (.cons (put_ne rfl b84) (.cons (put_ne rfl b85) (.cons (put_ne rfl b86) (.cons (put_ne rfl b87) (.cons (put_ne rfl b88) (.cons (put_ne rfl b89) (.cons (put_ne rfl b90) (.cons (put_ne rfl b92) (.cons (put_ne rfl b93) (.cons (put_ne rfl b94) (.cons (put_ne rfl b95) (.cons (put_ne rfl b96) (.cons (put_ne rfl b97) (.cons put_same .nil)))))))))))))))))))))))))))))))))))))))) tbX_ok ap_ok ?_
   refine all1 (by kernel_rfl) ?_
   intro vs ls H103 E103 st hE
   refine res_ex (by kernel_rfl) (end_flat st.inn hE (.inr rfl) (a := .bool (decide (v3 = (some 0)))) (by kernel_rfl) (Grew.trans g99 (gk st)) rfl ⟨?_, rfl⟩)
   simp only [betW, atP, f17, f19]
   simp [f18, f20, f58]
  ·
   intro vs ls H104 E104 st hE
   have f105 : (ford .f32 v4 u4 == some .eq) = false := bf st 0
   have f106 : v3 = u3 := dt st 1
   refine res_ex (by kernel_rfl) (end_flat st.inn hE (.inr rfl) (a := .bool (ford .f32 u4 v4 == some .lt)) (by kernel_rfl) (Grew.trans g53 (gk st)) rfl ⟨?_, rfl⟩)
   simp only [betW, atP, f17, f19, f105]
   simp [f18, f20, f106]
  ·
   intro vs ls H107 E107 st hE
   have f108 : (ford .f32 v4 u4 == some .eq) = true := bf st 0
   have f109 : v3 = u3 := dt st 1
   have b110 := eo st hE 95 (.flt .f32 v4)
   have b111 := eo st hE 101 (.flt .f32 u4)
   obtain ⟨w113, hw113⟩ : ∃ z, z = (!(decide (v3 = u3))) := ⟨_, rfl⟩
   have b114 : E107 103 = .bool w113 := by rw [hw113]; exact eo st hE 103 _
   have b115 := eo st hE 0 (.ptr l (off + 0))
   have b116 := eo st hE 5 (.int .i64 1)
   have b117 := eo st hE 62 (.int .i64 0)
   have b118 := eo st hE 63 (.int .i64 1)
   have b119 := eo st hE 60 (.int .i64 1)
   have b120 := eo st hE 61 (.bool true)
   have b121 := eo st hE 64 (.ptr l (off + 0))
   have b122 := eo st hE 66 (.ptr l (off + 0))
   have b123 := eo st hE 67 (.ptr l (off + 3))
   have b124 := eo st hE 65 (.int .i64 1)
   have b125 := eo st hE 68 (.ptr l (off + 4))
   have b126 := eo st hE 1 (.ptr l' (off' + 0))
   have b127 := eo st hE 70 (.ptr l' (off' + 0))
   have b128 := eo st hE 72 (.ptr l' (off' + 0))
   have b129 := eo st hE 73 (.ptr l' (off' + 3))
   have b130 := eo st hE 71 (.int .i64 1)
   have b131 := eo st hE 74 (.ptr l' (off' + 4))
   have b132 := eo st hE 69 (.flt .f32 v4)
   have b133 := eo st hE 75 (.flt .f32 u4)
   obtain ⟨w134, hw134⟩ : ∃ z, z = (!(ford .f32 v4 u4 == some .eq)) := ⟨_, rfl⟩
   have b135 : E107 76 = .bool w134 := by rw [hw134]; exact eo st hE 76 _
   have b136 := eo st hE 90 (.ptr l (off + 0))
   have b137 := eo st hE 92 (.ptr l (off + 0))
   have b138 := eo st hE 93 (.ptr l (off + 3))
   have b139 := eo st hE 91 (.int .i64 1)
   have b140 := eo st hE 94 (.ptr l (off + 4))
   have b141 := eo st hE 96 (.ptr l' (off' + 0))
   have b142 := eo st hE 98 (.ptr l' (off' + 0))
   have b143 := eo st hE 99 (.ptr l' (off' + 3))
   have b144 := eo st hE 97 (.int .i64 1)
   have b145 := eo st hE 100 (.ptr l' (off' + 4))
   have g146 : Grew H16 H107 := (gk st)
   have g147 : Grew H H107 := Grew.trans g53 g146
   have r148 := g146.at r54
   have r149 := g146.at r55
   clear st hE vs ls
   refine res_kidF (d := (some 102)) (f := 74) (args := [.tmp 95, .tmp 101]) (by kernel_rfl) (R := fun z H' => z = .bool (decide (v4 = u4)) ∧ H' = H107) ?_ ?_
   ·
    show ACalls _ _ [E107 95, E107 101] _ _
    rw [b110, b111]
    exact k_l01SameX v4 u4 o4 p4 sv4 su4 H107
   rintro z H107 ⟨rfl, rfl⟩
   have q150 := q56.app (.cons ⟨_, rfl⟩ (.cons ⟨_, rfl⟩ (.cons ⟨_, rfl⟩ .nil)) : KdsL [.bool, .bool, .bool] [.bool w113, .bool w134, .bool (decide (v4 = u4))])
   refine run_mc (φ := φ0) (pm := pmX 2 [] 5) 20 (ws := [⟨l, off, [n2 0, n2 1, n2 2, nF 3, nF 4, nF 5, nF 6, nI 7, nI 8], false⟩, ⟨l', off', [n2 9, n2 10, n2 11, nF 12, nF 13, nF 14, nF 15, nI 16, nI 17], false⟩]) (env := [(95, nF 4), (101, nF 13), (103, nB 20), (0, .ptr 0 0), (5, .lit (.int .i64 1)), (62, .lit (.int .i64 0)), (63, .lit (.int .i64 1)), (60, .lit (.int .i64 1)), (61, .lit (.bool true)), (64, .ptr 0 0), (66, .ptr 0 0), (67, .ptr 0 3), (65, .lit (.int .i64 1)), (68, .ptr 0 4), (1, .ptr 1 0), (70, .ptr 1 0), (72, .ptr 1 0), (73, .ptr 1 3), (71, .lit (.int .i64 1)), (74, .ptr 1 4), (69, nF 4), (75, nF 13), (76, nB 21), (90, .ptr 0 0), (92, .ptr 0 0), (93, .ptr 0 3), (91, .lit (.int .i64 1)), (94, .ptr 0 4), (96, .ptr 1 0), (98, .ptr 1 0), (99, .ptr 1 3), (97, .lit (.int .i64 1)), (100, .ptr 1 4), (102, nB 22)]) q150 (.cons (win_mid r148 hp (dL q150)) (.cons (win_mid r149 hp' (dL q150)) .nil)) (sepOk_ro rfl) .nil (eC q150 (.cons (put_ne rfl b110) (.cons (put_ne rfl b111) (.cons (put_ne rfl b114) (.cons (put_ne rfl b115) (.cons (put_ne rfl b116) (.cons (put_ne rfl b117) (.cons (put_ne rfl b118) (.cons (put_ne rfl b119) (.cons (put_ne rfl b120) (.cons (put_ne rfl b121) (.cons (put_ne rfl b122) (.cons (put_ne rfl b123) (.cons (put_ne rfl b124) (.cons (put_ne rfl b125) (.cons (put_ne rfl b126) (.cons (put_ne rfl b127) (.cons (put_ne rfl b128) (.cons (put_ne rfl b129) (.cons (put_ne rfl b130) (.cons (put_ne rfl b131) (.cons (put_ne rfl b132) (.cons (put_ne rfl b133) (.cons (put_ne rfl b135) (.cons (put_ne rfl b136) (.cons (put_ne rfl b137) (.cons (put_ne rfl b138) (.cons (put_ne rfl b139) (.cons (put_ne rfl b140) (.cons (put_ne rfl b141) (.cons (put_ne rfl b142) (.cons (put_ne rfl b143) (.cons (put_ne rfl b144) (.cons (put_ne rfl b145) (.cons put_same .nil))))))))))))))))))))))))))))))))))) tbX_ok ap_ok ?_
   refine all3 (by kernel_rfl) ?_ ?_ ?_
   ·
    intro vs ls H151 E151 st hE
    have f152 : ¬ (v4 = u4) := df st 0
    have b153 := eo st hE 109 (.flt .f32 v4)
    have b154 := eo st hE 5 (.int .i64 1)
    have b155 := eo st hE 62 (.int .i64 0)
    have b156 := eo st hE 63 (.int .i64 1)
    have b157 := eo st hE 60 (.int .i64 1)
    have b158 := eo st hE 61 (.bool true)
    have b159 := eo st hE 0 (.ptr l (off + 0))
    have b160 := eo st hE 64 (.ptr l (off + 0))
    have b161 := eo st hE 66 (.ptr l (off + 0))
    have b162 := eo st hE 67 (.ptr l (off + 3))
    have b163 := eo st hE 65 (.int .i64 1)
    have b164 := eo st hE 68 (.ptr l (off + 4))
    have b165 := eo st hE 1 (.ptr l' (off' + 0))
    have b166 := eo st hE 70 (.ptr l' (off' + 0))
    have b167 := eo st hE 72 (.ptr l' (off' + 0))
    have b168 := eo st hE 73 (.ptr l' (off' + 3))
    have b169 := eo st hE 71 (.int .i64 1)
    have b170 := eo st hE 74 (.ptr l' (off' + 4))
    have b171 := eo st hE 69 (.flt .f32 v4)
    have b172 := eo st hE 75 (.flt .f32 u4)
    have b173 := eo st hE 76 (.bool w134)
    have b174 := eo st hE 90 (.ptr l (off + 0))
    have b175 := eo st hE 92 (.ptr l (off + 0))
    have b176 := eo st hE 93 (.ptr l (off + 3))
    have b177 := eo st hE 91 (.int .i64 1)
    have b178 := eo st hE 94 (.ptr l (off + 4))
    have b179 := eo st hE 96 (.ptr l' (off' + 0))
    have b180 := eo st hE 98 (.ptr l' (off' + 0))
    have b181 := eo st hE 99 (.ptr l' (off' + 3))
    have b182 := eo st hE 97 (.int .i64 1)
    have b183 := eo st hE 100 (.ptr l' (off' + 4))
    have b184 := eo st hE 95 (.flt .f32 v4)
    have b185 := eo st hE 101 (.flt .f32 u4)
    have b186 := eo st hE 102 (.bool (decide (v4 = u4)))
    obtain ⟨w187, hw187⟩ : ∃ z, z = (!(decide (v4 = u4))) := ⟨_, rfl⟩
    have b188 : E151 103 = .bool w187 := by rw [hw187]; exact eo st hE 103 _
    have b189 := eo st hE 104 (.ptr l (off + 0))
    have b190 := eo st hE 106 (.ptr l (off + 0))
    have b191 := eo st hE 107 (.ptr l (off + 3))
    have b192 := eo st hE 105 (.int .i64 1)
    have b193 := eo st hE 108 (.ptr l (off + 4))
    have g194 : Grew H107 H151 := (gk st)
    have g195 : Grew H H151 := Grew.trans g147 g194
    have r196 := g194.at r148
    have r197 := g194.at r149
    clear st hE vs ls
    refine res_call (d := (some 110)) (f := 74) (args := [.tmp 109, .const (.flt .f32 (some 0))]) (by kernel_rfl) (R := fun z H' => z = .bool (decide (v4 = (some 0))) ∧ H' = H151) ?_ ?_
    ·
     show ACalls _ _ [E151 109, .flt .f32 (some 0)] _ _
     rw [b153]
     exact k_l01SameX v4 (some 0) o4 (fun b e => by cases e; exact ⟨by decide +kernel, by decide +kernel⟩) sv4 rfl H151
    rintro z H151 ⟨rfl, rfl⟩
    have q198 := q150.app (.cons ⟨_, rfl⟩ (.cons ⟨_, rfl⟩ .nil) : KdsL [.bool, .bool] [.bool w187, .bool (decide (v4 = (some 0)))])
    refine run_mc (φ := φ0) (pm := pmX 2 [] 5) 20 (ws := [⟨l, off, [n2 0, n2 1, n2 2, nF 3, nF 4, nF 5, nF 6, nI 7, nI 8], false⟩, ⟨l', off', [n2 9, n2 10, n2 11, nF 12, nF 13, nF 14, nF 15, nI 16, nI 17], false⟩]) (env := [(109, nF 4), (5, .lit (.int .i64 1)), (62, .lit (.int .i64 0)), (63, .lit (.int .i64 1)), (60, .lit (.int .i64 1)), (61, .lit (.bool true)), (0, .ptr 0 0), (64, .ptr 0 0), (66, .ptr 0 0), (67, .ptr 0 3), (65, .lit (.int .i64 1)), (68, .ptr 0 4), (1, .ptr 1 0), (70, .ptr 1 0), (72, .ptr 1 0), (73, .ptr 1 3), (71, .lit (.int .i64 1)), (74, .ptr 1 4), (69, nF 4), (75, nF 13), (76, nB 21), (90, .ptr 0 0), (92, .ptr 0 0), (93, .ptr 0 3), (91, .lit (.int .i64 1)), (94, .ptr 0 4), (96, .ptr 1 0), (98, .ptr 1 0), (99, .ptr 1 3), (97, .lit (.int .i64 1)), (100, .ptr 1 4), (95, nF 4), (101, nF 13), (102, nB 22), (103, nB 23), (104, .ptr 0 0), (106, .ptr 0 0), (107, .ptr 0 3), (105, .lit (.int .i64 1)), (108, .ptr 0 4), (110, nB 24)]) q198 (.cons (win_mid r196 hp (dL q198)) (.cons (win_mid r197 hp' (dL q198)) .nil)) (sepOk_ro rfl) .nil (eC q198 (.cons (put_ne rfl b153) (.cons (put_ne rfl b154) (.cons (put_ne rfl b155) (.cons (put_ne rfl b156) (.cons (put_ne rfl b157) (.cons (put_ne rfl b158) (.cons (put_ne rfl b159) (.cons (put_ne rfl b160) (.cons (put_ne rfl b161) (.cons (put_ne rfl b162) (.cons (put_ne rfl b163) (.cons (put_ne rfl b164) (.cons (put_ne rfl b165) (.cons (put_ne rfl b166) (.cons (put_ne rfl b167) (.cons (put_ne rfl b168) (.cons (put_ne rfl b169) (.cons (put_ne rfl b170) (.cons (put_ne rfl b171) (.cons (put_ne rfl b172) (.cons (put_ne rfl b173) (.cons (put_ne rfl b174) (.cons (put_ne rfl b175) (.cons (put_ne rfl b176) (.cons (put_ne rfl b177) (.cons (put_ne rfl b178) (.cons (put_ne rfl b179) (.cons (put_ne rfl b180) (.cons (put_ne rfl b181) (.cons (put_ne rfl b182) (.cons (put_ne rfl b183) (.cons (put_ne rfl b184) (.cons (put_ne rfl b185) (.cons (put_ne rfl b186) (.cons (put_ne rfl b188) (.cons (put_ne rfl b189) (.cons (put_ne rfl b190) (.cons (put_ne rfl b191) (.cons (put_ne rfl b192) (.cons (put_ne rfl b193) (.cons put_same .nil)))))))))))))))))))))))))))))))))))))))))) tbX_ok ap_ok ?_
    refine all1 (by kernel_rfl) ?_
    intro vs ls H199 E199 st hE
    refine res_ex (by kernel_rfl) (end_flat st.inn hE (.inr rfl) (a := .bool (decide (v4 = (some 0)))) (by kernel_rfl) (Grew.trans g195 (gk st)) rfl ⟨?_, rfl⟩)
    simp only [betW, atP, f17, f19, f108]
    simp [f18, f20, f109, f152]
   ·
    intro vs ls H200 E200 st hE
    have f201 : (ford .f32 v5 u5 == some .eq) = false := bf st 0
    have f202 : v4 = u4 := dt st 1
    refine res_ex (by kernel_rfl) (end_flat st.inn hE (.inr rfl) (a := .bool (ford .f32 u5 v5 == some .lt)) (by kernel_rfl) (Grew.trans g147 (gk st)) rfl ⟨?_, rfl⟩)
    simp only [betW, atP, f17, f19, f108, f201]
    simp [f18, f20, f109, f202]
   ·
    intro vs ls H203 E203 st hE
    have f204 : (ford .f32 v5 u5 == some .eq) = true := bf st 0
    have f205 : v4 = u4 := dt st 1
    have b206 := eo st hE 95 (.flt .f32 v5)
    have b207 := eo st hE 101 (.flt .f32 u5)
    obtain ⟨w209, hw209⟩ : ∃ z, z = (!(decide (v4 = u4))) := ⟨_, rfl⟩
    have b210 : E203 103 = .bool w209 := by rw [hw209]; exact eo st hE 103 _
    have b211 := eo st hE 0 (.ptr l (off + 0))
    have b212 := eo st hE 5 (.int .i64 2)
    have b213 := eo st hE 62 (.int .i64 1)
    have b214 := eo st hE 63 (.int .i64 2)
    have b215 := eo st hE 60 (.int .i64 2)
    have b216 := eo st hE 61 (.bool true)
    have b217 := eo st hE 64 (.ptr l (off + 0))
    have b218 := eo st hE 66 (.ptr l (off + 0))
    have b219 := eo st hE 67 (.ptr l (off + 3))
    have b220 := eo st hE 65 (.int .i64 2)
    have b221 := eo st hE 68 (.ptr l (off + 5))
    have b222 := eo st hE 1 (.ptr l' (off' + 0))
    have b223 := eo st hE 70 (.ptr l' (off' + 0))
    have b224 := eo st hE 72 (.ptr l' (off' + 0))
    have b225 := eo st hE 73 (.ptr l' (off' + 3))
    have b226 := eo st hE 71 (.int .i64 2)
    have b227 := eo st hE 74 (.ptr l' (off' + 5))
    have b228 := eo st hE 69 (.flt .f32 v5)
    have b229 := eo st hE 75 (.flt .f32 u5)
    obtain ⟨w230, hw230⟩ : ∃ z, z = (!(ford .f32 v5 u5 == some .eq)) := ⟨_, rfl⟩
    have b231 : E203 76 = .bool w230 := by rw [hw230]; exact eo st hE 76 _
    have b232 := eo st hE 90 (.ptr l (off + 0))
    have b233 := eo st hE 92 (.ptr l (off + 0))
    have b234 := eo st hE 93 (.ptr l (off + 3))
    have b235 := eo st hE 91 (.int .i64 2)
    have b236 := eo st hE 94 (.ptr l (off + 5))
    have b237 := eo st hE 96 (.ptr l' (off' + 0))
    have b238 := eo st hE 98 (.ptr l' (off' + 0))
    have b239 := eo st hE 99 (.ptr l' (off' + 3))
    have b240 := eo st hE 97 (.int .i64 2)
    have b241 := eo st hE 100 (.ptr l' (off' + 5))
    have g242 : Grew H107 H203 := (gk st)
    have g243 : Grew H H203 := Grew.trans g147 g242
    have r244 := g242.at r148
    have r245 := g242.at r149
    clear st hE vs ls
    refine res_kidF (d := (some 102)) (f := 74) (args := [.tmp 95, .tmp 101]) (by kernel_rfl) (R := fun z H' => z = .bool (decide (v5 = u5)) ∧ H' = H203) ?_ ?_
    ·
     show ACalls _ _ [E203 95, E203 101] _ _
     rw [b206, b207]
     exact k_l01SameX v5 u5 o5 p5 sv5 su5 H203
    rintro z H203 ⟨rfl, rfl⟩
    have q246 := q150.app (.cons ⟨_, rfl⟩ (.cons ⟨_, rfl⟩ (.cons ⟨_, rfl⟩ .nil)) : KdsL [.bool, .bool, .bool] [.bool w209, .bool w230, .bool (decide (v5 = u5))])
    refine run_mc (φ := φ0) (pm := pmX 2 [] 5) 20 (ws := [⟨l, off, [n2 0, n2 1, n2 2, nF 3, nF 4, nF 5, nF 6, nI 7, nI 8], false⟩, ⟨l', off', [n2 9, n2 10, n2 11, nF 12, nF 13, nF 14, nF 15, nI 16, nI 17], false⟩]) (env := [(95, nF 5), (101, nF 14), (103, nB 23), (0, .ptr 0 0), (5, .lit (.int .i64 2)), (62, .lit (.int .i64 1)), (63, .lit (.int .i64 2)), (60, .lit (.int .i64 2)), (61, .lit (.bool true)), (64, .ptr 0 0), (66, .ptr 0 0), (67, .ptr 0 3), (65, .lit (.int .i64 2)), (68, .ptr 0 5), (1, .ptr 1 0), (70, .ptr 1 0), (72, .ptr 1 0), (73, .ptr 1 3), (71, .lit (.int .i64 2)), (74, .ptr 1 5), (69, nF 5), (75, nF 14), (76, nB 24), (90, .ptr 0 0), (92, .ptr 0 0), (93, .ptr 0 3), (91, .lit (.int .i64 2)), (94, .ptr 0 5), (96, .ptr 1 0), (98, .ptr 1 0), (99, .ptr 1 3), (97, .lit (.int .i64 2)), (100, .ptr 1 5), (102, nB 25)]) q246 (.cons (win_mid r244 hp (dL q246)) (.cons (win_mid r245 hp' (dL q246)) .nil)) (sepOk_ro rfl) .nil (eC q246 (.cons (put_ne rfl b206) (.cons (put_ne rfl b207) (.cons (put_ne rfl b210) (.cons (put_ne rfl b211) (.cons (put_ne rfl b212) (.cons (put_ne rfl b213) (.cons (put_ne rfl b214) (.cons (put_ne rfl b215) (.cons (put_ne rfl b216) (.cons (put_ne rfl b217) (.cons (put_ne rfl b218) (.cons (put_ne rfl b219) (.cons (put_ne rfl b220) (.cons (put_ne rfl b221) (.cons (put_ne rfl b222) (.cons (put_ne rfl b223) (.cons (put_ne rfl b224) (.cons (put_ne rfl b225) (.cons (put_ne rfl b226) (.cons (put_ne rfl b227) (.cons (put_ne rfl b228) (.cons (put_ne rfl b229) (.cons (put_ne rfl b231) (.cons (put_ne rfl b232) (.cons (put_ne rfl b233) (.cons (put_ne rfl b234) (.cons (put_ne rfl b235) (.cons (put_ne rfl b236) (.cons (put_ne rfl b237) (.cons (put_ne rfl b238) (.cons (put_ne rfl b239) (.cons (put_ne rfl b240) (.cons (put_ne rfl b241) (.cons put_same .nil))))))))))))))))))))))))))))))))))) tbX_ok ap_ok ?_
    refine all2 (by kernel_rfl) ?_ ?_
    ·
     intro vs ls H247 E247 st hE
     have f248 : ¬ (v5 = u5) := df st 0
     have b249 := eo st hE 109 (.flt .f32 v5)
     have b250 := eo st hE 5 (.int .i64 2)
     have b251 := eo st hE 62 (.int .i64 1)
     have b252 := eo st hE 63 (.int .i64 2)
     have b253 := eo st hE 60 (.int .i64 2)
     have b254 := eo st hE 61 (.bool true)
     have b255 := eo st hE 0 (.ptr l (off + 0))
     have b256 := eo st hE 64 (.ptr l (off + 0))
     have b257 := eo st hE 66 (.ptr l (off + 0))
     have b258 := eo st hE 67 (.ptr l (off + 3))
     have b259 := eo st hE 65 (.int .i64 2)
     have b260 := eo st hE 68 (.ptr l (off + 5))
     have b261 := eo st hE 1 (.ptr l' (off' + 0))
     have b262 := eo st hE 70 (.ptr l' (off' + 0))
     have b263 := eo st hE 72 (.ptr l' (off' + 0))
     have b264 := eo st hE 73 (.ptr l' (off' + 3))
     have b265 := eo st hE 71 (.int .i64 2)
     have b266 := eo st hE 74 (.ptr l' (off' + 5))
     have b267 := eo st hE 69 (.flt .f32 v5)
     have b268 := eo st hE 75 (.flt .f32 u5)
     have b269 := eo st hE 76 (.bool w230)
     have b270 := eo st hE 90 (.ptr l (off + 0))
     have b271 := eo st hE 92 (.ptr l (off + 0))
     have b272 := eo st hE 93 (.ptr l (off + 3))
     have b273 := eo st hE 91 (.int .i64 2)
     have b274 := eo st hE 94 (.ptr l (off + 5))
     have b275 := eo st hE 96 (.ptr l' (off' + 0))
     have b276 := eo st hE 98 (.ptr l' (off' + 0))
     have b277 := eo st hE 99 (.ptr l' (off' + 3))
     have b278 := eo st hE 97 (.int .i64 2)
     have b279 := eo st hE 100 (.ptr l' (off' + 5))
     have b280 := eo st hE 95 (.flt .f32 v5)
     have b281 := eo st hE 101 (.flt .f32 u5)
     have b282 := eo st hE 102 (.bool (decide (v5 = u5)))
     obtain ⟨w283, hw283⟩ : ∃ z, z = (!(decide (v5 = u5))) := ⟨_, rfl⟩
     have b284 : E247 103 = .bool w283 := by rw [hw283]; exact eo st hE 103 _
     have b285 := eo st hE 104 (.ptr l (off + 0))
     have b286 := eo st hE 106 (.ptr l (off + 0))
     have b287 := eo st hE 107 (.ptr l (off + 3))
     have b288 := eo st hE 105 (.int .i64 2)
     have b289 := eo st hE 108 (.ptr l (off + 5))
     have g290 : Grew H203 H247 := (gk st)
     have g291 : Grew H H247 := Grew.trans g243 g290
     have r292 := g290.at r244
     have r293 := g290.at r245
     clear st hE vs ls
     refine res_call (d := (some 110)) (f := 74) (args := [.tmp 109, .const (.flt .f32 (some 0))]) (by kernel_rfl) (R := fun z H' => z = .bool (decide (v5 = (some 0))) ∧ H' = H247) ?_ ?_
     ·
      show ACalls _ _ [E247 109, .flt .f32 (some 0)] _ _
      rw [b249]
      exact k_l01SameX v5 (some 0) o5 (fun b e => by cases e; exact ⟨by decide +kernel, by decide +kernel⟩) sv5 rfl H247
     rintro z H247 ⟨rfl, rfl⟩
     have q294 := q246.app (.cons ⟨_, rfl⟩ (.cons ⟨_, rfl⟩ .nil) : KdsL [.bool, .bool] [.bool w283, .bool (decide (v5 = (some 0)))])
     refine run_mc (φ := φ0) (pm := pmX 2 [] 5) 20 (ws := [⟨l, off, [n2 0, n2 1, n2 2, nF 3, nF 4, nF 5, nF 6, nI 7, nI 8], false⟩, ⟨l', off', [n2 9, n2 10, n2 11, nF 12, nF 13, nF 14, nF 15, nI 16, nI 17], false⟩]) (env := [(109, nF 5), (5, .lit (.int .i64 2)), (62, .lit (.int .i64 1)), (63, .lit (.int .i64 2)), (60, .lit (.int .i64 2)), (61, .lit (.bool true)), (0, .ptr 0 0), (64, .ptr 0 0), (66, .ptr 0 0), (67, .ptr 0 3), (65, .lit (.int .i64 2)), (68, .ptr 0 5), (1, .ptr 1 0), (70, .ptr 1 0), (72, .ptr 1 0), (73, .ptr 1 3), (71, .lit (.int .i64 2)), (74, .ptr 1 5), (69, nF 5), (75, nF 14), (76, nB 24), (90, .ptr 0 0), (92, .ptr 0 0), (93, .ptr 0 3), (91, .lit (.int .i64 2)), (94, .ptr 0 5), (96, .ptr 1 0), (98, .ptr 1 0), (99, .ptr 1 3), (97, .lit (.int .i64 2)), (100, .ptr 1 5), (95, nF 5), (101, nF 14), (102, nB 25), (103, nB 26), (104, .ptr 0 0), (106, .ptr 0 0), (107, .ptr 0 3), (105, .lit (.int .i64 2)), (108, .ptr 0 5), (110, nB 27)]) q294 (.cons (win_mid r292 hp (dL q294)) (.cons (win_mid r293 hp' (dL q294)) .nil)) (sepOk_ro rfl) .nil (eC q294 (.cons (put_ne rfl b249) (.cons (put_ne rfl b250) (.cons (put_ne rfl b251) (.cons (put_ne rfl b252) (.cons (put_ne rfl b253) (.cons (put_ne rfl b254) (.cons (put_ne rfl b255) (.cons (put_ne rfl b256) (.cons (put_ne rfl b257) (.cons (put_ne rfl b258) (.cons (put_ne rfl b259) (.cons (put_ne rfl b260) (.cons (put_ne rfl b261) (.cons (put_ne rfl b262) (.cons (put_ne rfl b263) (.cons (put_ne rfl b264) (.cons (put_ne rfl b265) (.cons (put_ne rfl b266) (.cons (put_ne rfl b267) (.cons (put_ne rfl b268) (.cons (put_ne rfl b269) (.cons (put_ne rfl b270) (.cons (put_ne rfl b271) (.cons (put_ne rfl b272) (.cons (put_ne rfl b273) (.cons (put_ne rfl b274) (.cons (put_ne rfl b275) (.cons (put_ne rfl b276) (.cons (put_ne rfl b277) (.cons (put_ne rfl b278) (.cons (put_ne rfl b279) (.cons (put_ne rfl b280) (.cons (put_ne rfl b281) (.cons (put_ne rfl b282) (.cons (put_ne rfl b284) (.cons (put_ne rfl b285) (.cons (put_ne rfl b286) (.cons (put_ne rfl b287) (.cons (put_ne rfl b288) (.cons (put_ne rfl b289) (.cons put_same .nil)))))))))))))))))))))))))))))))))))))))))) tbX_ok ap_ok ?_
     refine all1 (by kernel_rfl) ?_
     intro vs ls H295 E295 st hE
     refine res_ex (by kernel_rfl) (end_flat st.inn hE (.inr rfl) (a := .bool (decide (v5 = (some 0)))) (by kernel_rfl) (Grew.trans g291 (gk st)) rfl ⟨?_, rfl⟩)
     simp only [betW, atP, f17, f19, f108, f204]
     simp [f18, f20, f109, f205, f248]
    ·
     intro vs ls H296 E296 st hE
     have f297 : v5 = u5 := dt st 0
     refine res_ex (by kernel_rfl) (end_flat st.inn hE (.inr rfl) (a := .bool false) (by kernel_rfl) (Grew.trans g243 (gk st)) rfl ⟨?_, rfl⟩)
     simp only [betW, atP, f17, f19, f108, f204]
     simp [f18, f20, f109, f205, f297]
end Go.Proofs.Ytacligocjfhckaa
