/- Contracts: sides, finite points, cells of points, by both. -/
import Derived.Test.YtgjhjemmddojfaaTBase
import Derived.Test.YtgjhjemmddojfaaSxE
set_option linter.unusedVariables false
set_option linter.unusedSimpArgs false
namespace Go.Proofs.Ytgjhjemmddojfaa
open Go.Ab
set_option maxRecDepth 100000
set_option maxHeartbeats 1000000
attribute [local irreducible] Res
def sideX (x : Option Nat) : Bool := fin32 x && (ford .f32 (some 0) x == some .lt)
def finX (a b c : Option Nat) : Bool := fin32 a && (fin32 b && fin32 c)
theorem sideX_pos {x : Option Nat} (h : sideX x = true) : fin32 x = true ∧ (ford .f32 (some 0) x == some .lt) = true := by
 unfold sideX at h; rw [Bool.and_eq_true] at h; exact h
theorem finX_all {a b c : Option Nat} (h : finX a b c = true) : fin32 a = true ∧ fin32 b = true ∧ fin32 c = true := by
 unfold finX at h; rw [Bool.and_eq_true, Bool.and_eq_true] at h; exact h
def cellX (s a b c : Option Nat) : List AV × Int :=
 if sideX s = true then (if finX a b c = true then (if bigC (quoC a s) = true then ([.int .i32 0, .int .i32 0, .int .i32 0], 3) else if bigC (quoC b s) = true then ([.int .i32 0, .int .i32 0, .int .i32 0], 3) else if bigC (quoC c s) = true then ([.int .i32 0, .int .i32 0, .int .i32 0], 3)
  else ([.int .i32 (intQ (quoC a s)), .int .i32 (intQ (quoC b s)), .int .i32 (intQ (quoC c s))], 0)) else ([.int .i32 0, .int .i32 0, .int .i32 0], 2)) else ([.int .i32 0, .int .i32 0, .int .i32 0], 2)
theorem fin_e (x : Option Nat) : (ford .f32 (fop .sub .f32 x x) (some 0) == some .eq) = fin32 x := rfl
theorem k_isSideX (x : Option Nat) (hx : fOk .f32 x) (H : AHeap) : APure Try.prog 61 [.flt .f32 x] H (.bool (sideX x)) := by
 refine res_start h_impl_isSide (by simp) ?_
 refine run_mn (φ := φ0) (pm := pmR 0 [] 0) 20 (nk := [(.atom 0, .flt .f32)]) (fs := []) (xs := [.flt .f32 x]) (ws := []) (env := [(0, .nd 0 (.flt .f32))]) ?_ ?_ tb_ok ap_ok ?_
 ·
  refine midN_in ?_ .nil _ ?_ ?_ ?_
  ·
   exact (.cons rfl ⟨_, rfl, hx⟩ .nil)
  ·
   exact .nil
  ·
   exact sepOk_ro rfl
  ·
   exact .nil
 ·
  exact (envEq rfl (dNd rfl ⟨_, rfl, hx⟩) envNil)
 refine all2 (by kernel_rfl) ?_ ?_
 ·
  intro vs ls H1 E1 st hE
  have f2 : (ford .f32 (fop .sub .f32 x x) (some 0) == some .eq) = false := bf st 0
  refine res_ex (by kernel_rfl) (end_flat st.inn hE (.inr rfl) (a := .bool false) (by kernel_rfl) (Grew.trans (Grew.refl _) (gk st)) rfl ⟨?_, rfl⟩)
  simp only [fin_e] at f2
  simp [sideX, fin_e, f2]
 ·
  intro vs ls H3 E3 st hE
  have f4 : (ford .f32 (fop .sub .f32 x x) (some 0) == some .eq) = true := bf st 0
  refine res_ex (by kernel_rfl) (end_flat st.inn hE (.inr rfl) (a := .bool (ford .f32 (some 0) x == some .lt)) (by kernel_rfl) (Grew.trans (Grew.refl _) (gk st)) rfl ⟨?_, rfl⟩)
  simp only [fin_e] at f4
  simp [sideX, fin_e, f4]
theorem k_l05SideX (x : Option Nat) (hx : fOk .f32 x) (H : AHeap) : APure Try.prog 65 [.flt .f32 x] H (.bool (sideX x)) := by
 refine res_start h_spec_l05Side (by simp) ?_
 refine run_mn (φ := φ0) (pm := pmR 0 [] 0) 20 (nk := [(.atom 0, .flt .f32)]) (fs := []) (xs := [.flt .f32 x]) (ws := []) (env := [(0, .nd 0 (.flt .f32))]) ?_ ?_ tb_ok ap_ok ?_
 ·
  refine midN_in ?_ .nil _ ?_ ?_ ?_
  ·
   exact (.cons rfl ⟨_, rfl, hx⟩ .nil)
  ·
   exact .nil
  ·
   exact sepOk_ro rfl
  ·
   exact .nil
 ·
  exact (envEq rfl (dNd rfl ⟨_, rfl, hx⟩) envNil)
 refine all2 (by kernel_rfl) ?_ ?_
 ·
  intro vs ls H1 E1 st hE
  have f2 : (ford .f32 (fop .sub .f32 x x) (some 0) == some .eq) = true := bf st 0
  refine res_ex (by kernel_rfl) (end_flat st.inn hE (.inr rfl) (a := .bool (ford .f32 (some 0) x == some .lt)) (by kernel_rfl) (Grew.trans (Grew.refl _) (gk st)) rfl ⟨?_, rfl⟩)
  simp only [fin_e] at f2
  simp [sideX, fin_e, f2]
 ·
  intro vs ls H3 E3 st hE
  have f4 : (ford .f32 (fop .sub .f32 x x) (some 0) == some .eq) = false := bf st 0
  refine res_ex (by kernel_rfl) (end_flat st.inn hE (.inr rfl) (a := .bool false) (by kernel_rfl) (Grew.trans (Grew.refl _) (gk st)) rfl ⟨?_, rfl⟩)
  simp only [fin_e] at f4
  simp [sideX, fin_e, f4]
theorem k_finX (a b c : Option Nat) (ha : fOk .f32 a) (hb : fOk .f32 b) (hc : fOk .f32 c) (H : AHeap) : APure Try.prog 62 [.agg [.flt .f32 a, .flt .f32 b, .flt .f32 c]] H (.bool (finX a b c)) := by
 refine res_start h_impl_IsFiniteVec (by simp) ?_
 refine run_mn (φ := φ0) (pm := pmR 0 [] 0) 20 (nk := [(.atom 0, .flt .f32), (.atom 1, .flt .f32), (.atom 2, .flt .f32)]) (fs := []) (xs := [.flt .f32 a, .flt .f32 b, .flt .f32 c]) (ws := []) (env := [(0, .agg [.nd 0 (.flt .f32), .nd 1 (.flt .f32), .nd 2 (.flt .f32)])]) ?_ ?_ tb_ok ap_ok ?_
 ·
  refine midN_in ?_ .nil _ ?_ ?_ ?_
  ·
   exact (.cons rfl ⟨_, rfl, ha⟩ (.cons rfl ⟨_, rfl, hb⟩ (.cons rfl ⟨_, rfl, hc⟩ .nil)))
  ·
   exact .nil
  ·
   exact sepOk_ro rfl
  ·
   exact .nil
 ·
  exact (envEq rfl (dAgg (dlCons (dNd rfl ⟨_, rfl, ha⟩) (dlCons (dNd rfl ⟨_, rfl, hb⟩) (dlCons (dNd rfl ⟨_, rfl, hc⟩) dlNil)))) envNil)
 refine all4 (by kernel_rfl) ?_ ?_ ?_ ?_
 ·
  intro vs ls H1 E1 st hE
  have f2 : (ford .f32 (fop .sub .f32 a a) (some 0) == some .eq) = false := bf st 0
  refine res_ex (by kernel_rfl) (end_flat st.inn hE (.inr rfl) (a := .bool false) (by kernel_rfl) (Grew.trans (Grew.refl _) (gk st)) rfl ⟨?_, rfl⟩)
  simp only [fin_e] at f2
  simp [finX, fin_e, f2]
 ·
  intro vs ls H3 E3 st hE
  have f4 : (ford .f32 (fop .sub .f32 b b) (some 0) == some .eq) = false := bf st 0
  have f5 : (ford .f32 (fop .sub .f32 a a) (some 0) == some .eq) = true := bf st 1
  refine res_ex (by kernel_rfl) (end_flat st.inn hE (.inr rfl) (a := .bool false) (by kernel_rfl) (Grew.trans (Grew.refl _) (gk st)) rfl ⟨?_, rfl⟩)
  simp only [fin_e] at f4
  simp only [fin_e] at f5
  simp [finX, fin_e, f4, f5]
 ·
  intro vs ls H6 E6 st hE
  have f7 : (ford .f32 (fop .sub .f32 c c) (some 0) == some .eq) = false := bf st 0
  have f8 : (ford .f32 (fop .sub .f32 b b) (some 0) == some .eq) = true := bf st 1
  have f9 : (ford .f32 (fop .sub .f32 a a) (some 0) == some .eq) = true := bf st 2
  refine res_ex (by kernel_rfl) (end_flat st.inn hE (.inr rfl) (a := .bool false) (by kernel_rfl) (Grew.trans (Grew.refl _) (gk st)) rfl ⟨?_, rfl⟩)
  simp only [fin_e] at f7
  simp only [fin_e] at f8
  simp only [fin_e] at f9
  simp [finX, fin_e, f7, f8, f9]
 ·
  intro vs ls H10 E10 st hE
  have f11 : (ford .f32 (fop .sub .f32 c c) (some 0) == some .eq) = true := bf st 0
  have f12 : (ford .f32 (fop .sub .f32 b b) (some 0) == some .eq) = true := bf st 1
  have f13 : (ford .f32 (fop .sub .f32 a a) (some 0) == some .eq) = true := bf st 2
  refine res_ex (by kernel_rfl) (end_flat st.inn hE (.inr rfl) (a := .bool true) (by kernel_rfl) (Grew.trans (Grew.refl _) (gk st)) rfl ⟨?_, rfl⟩)
  simp only [fin_e] at f11
  simp only [fin_e] at f12
  simp only [fin_e] at f13
  simp [finX, fin_e, f11, f12, f13]
theorem k_l01VecX (a b c : Option Nat) (ha : fOk .f32 a) (hb : fOk .f32 b) (hc : fOk .f32 c) (H : AHeap) : APure Try.prog 83 [.agg [.flt .f32 a, .flt .f32 b, .flt .f32 c]] H (.bool (finX a b c)) := by
 refine res_start h_spec_l01Vec (by simp) ?_
 refine run_mn (φ := φ0) (pm := pmR 0 [] 0) 20 (nk := [(.atom 0, .flt .f32), (.atom 1, .flt .f32), (.atom 2, .flt .f32)]) (fs := []) (xs := [.flt .f32 a, .flt .f32 b, .flt .f32 c]) (ws := []) (env := [(0, .agg [.nd 0 (.flt .f32), .nd 1 (.flt .f32), .nd 2 (.flt .f32)])]) ?_ ?_ tb_ok ap_ok ?_
 ·
  refine midN_in ?_ .nil _ ?_ ?_ ?_
  ·
   exact (.cons rfl ⟨_, rfl, ha⟩ (.cons rfl ⟨_, rfl, hb⟩ (.cons rfl ⟨_, rfl, hc⟩ .nil)))
  ·
   exact .nil
  ·
   exact sepOk_ro rfl
  ·
   exact .nil
 ·
  exact (envEq rfl (dAgg (dlCons (dNd rfl ⟨_, rfl, ha⟩) (dlCons (dNd rfl ⟨_, rfl, hb⟩) (dlCons (dNd rfl ⟨_, rfl, hc⟩) dlNil)))) envNil)
 refine all3 (by kernel_rfl) ?_ ?_ ?_
 ·
  intro vs ls H1 E1 st hE
  have f2 : (ford .f32 (fop .sub .f32 b b) (some 0) == some .eq) = true := bf st 0
  have f3 : (ford .f32 (fop .sub .f32 a a) (some 0) == some .eq) = true := bf st 1
  refine res_ex (by kernel_rfl) (end_flat st.inn hE (.inr rfl) (a := .bool (ford .f32 (fop .sub .f32 c c) (some 0) == some .eq)) (by kernel_rfl) (Grew.trans (Grew.refl _) (gk st)) rfl ⟨?_, rfl⟩)
  simp only [fin_e] at f2
  simp only [fin_e] at f3
  simp [finX, fin_e, f2, f3]
 ·
  intro vs ls H4 E4 st hE
  have f5 : (ford .f32 (fop .sub .f32 b b) (some 0) == some .eq) = false := bf st 0
  have f6 : (ford .f32 (fop .sub .f32 a a) (some 0) == some .eq) = true := bf st 1
  refine res_ex (by kernel_rfl) (end_flat st.inn hE (.inr rfl) (a := .bool false) (by kernel_rfl) (Grew.trans (Grew.refl _) (gk st)) rfl ⟨?_, rfl⟩)
  simp only [fin_e] at f5
  simp only [fin_e] at f6
  simp [finX, fin_e, f5, f6]
 ·
  intro vs ls H7 E7 st hE
  have f8 : (ford .f32 (fop .sub .f32 a a) (some 0) == some .eq) = false := bf st 0
  refine res_ex (by kernel_rfl) (end_flat st.inn hE (.inr rfl) (a := .bool false) (by kernel_rfl) (Grew.trans (Grew.refl _) (gk st)) rfl ⟨?_, rfl⟩)
  simp only [fin_e] at f8
  simp [finX, fin_e, f8]
theorem k_archFloorC (H : AHeap) (x : Option Nat) : APure Try.prog 99 [.flt .f64 x] H (.flt .f64 (fInt .down x)) := x_integral Try.func99 (by kernel_rfl) (by kernel_rfl) (by kernel_rfl) .down "math.archFloor" (by kernel_rfl) x
theorem k_bits64 (H : AHeap) (b : Nat) : APure Try.prog 97 [.flt .f64 (some b)] H (.int .u64 b) := x_bits64 Try.func97 (by kernel_rfl) (by kernel_rfl) (by kernel_rfl) (by kernel_rfl) b
theorem k_frombits64 (H : AHeap) (n : Int) (h0 : 0 ≤ n) (h1 : n < 18446744073709551616) : APure Try.prog 101 [.int .u64 n] H (.flt .f64 (nrm .f64 n.toNat)) := x_frombits64 Try.func101 (by kernel_rfl) (by kernel_rfl) (by kernel_rfl) (by kernel_rfl) n h0 h1
def φC : Nat → List AV → AV := fun g vs => match g, vs with
 | 1, [.flt .f64 x] => .flt .f64 (fInt .down x)
 | _, _ => .undef
def apC : List (Nat × Nat × List Kd × Kd) := [(96, 0, [.flt .f32], .bits), (99, 1, [.flt .f64], .flt .f64)]
theorem apC_ok : ApOk Try.prog φC apC := .bits (fun x H _ => k_bits32 H x) (.app (fun vs H h => by
 cases h with | cons h1 h2 =>
 cases h2
 obtain ⟨x, rfl, hx⟩ := h1
 exact ⟨k_archFloorC H x, ⟨_, rfl, fInt_ok' _ hx⟩⟩) .nil)
def pmC (fl : Nat) (ru : List (RK × SV)) (un : Nat) : Pm := ⟨fl, ru, tb, apC, un⟩
-- Abs
theorem and_abs (b : Nat) (h : b < 2 ^ 64) : (BitVec.ofInt 64 ((b : Nat) : Int) &&& ~~~ BitVec.ofInt 64 9223372036854775808).toNat = b % 9223372036854775808 := by
 have e1 : (~~~ BitVec.ofInt 64 9223372036854775808) = BitVec.ofNat 64 (2 ^ 63 - 1) := by decide
 rw [e1, BitVec.toNat_and]
 have e2 : (BitVec.ofInt 64 ((b : Nat) : Int)).toNat = b := by
  rw [BitVec.ofInt_natCast, BitVec.toNat_ofNat]; exact Nat.mod_eq_of_lt h
 rw [e2, BitVec.toNat_ofNat, Nat.mod_eq_of_lt (by decide), Nat.and_two_pow_sub_one_eq_mod]
theorem k_absb (H : AHeap) (b : Nat) (hb : fOk .f64 (some b)) : APure Try.prog 101 [.int .u64 (IntKind.wrap .u64 (BitVec.ofInt (IntKind.bits .u64) (b : Int) &&& ~~~ BitVec.ofInt (IntKind.bits .u64) 9223372036854775808).toNat)] H (.flt .f64 (fAbs (some b))) := by
 show APure Try.prog 101 [.int .u64 (IntKind.u64.wrap (BitVec.ofInt 64 (b : Int) &&& ~~~ BitVec.ofInt 64 9223372036854775808).toNat)] H (.flt .f64 (fAbs (some b)))
 obtain ⟨h1, h2⟩ := hb b rfl
 have h1 : b < 2 ^ 64 := h1
 rw [and_abs b h1]
 have hm : b % 9223372036854775808 < 9223372036854775808 := Nat.mod_lt _ (by decide)
 have hw : IntKind.u64.wrap ((b % 9223372036854775808 : Nat) : Int) = ((b % 9223372036854775808 : Nat) : Int) := by
  unfold IntKind.wrap; exact Int.emod_eq_of_lt (by omega) (by show _ < (18446744073709551616 : Int); omega)
 rw [hw]
 have := k_frombits64 H ((b % 9223372036854775808 : Nat) : Int) (by omega) (by omega)
 rw [Int.toNat_natCast] at this
 have e : nrm .f64 (b % 9223372036854775808) = fAbs (some b) := by
  unfold nrm
  rw [((fAbs_ok hb) _ rfl).2]
  rfl
 rw [e] at this
 exact this
theorem k_Abs (x : Option Nat) (hs : x.isSome = true) (hb : fOk .f64 x) (H : AHeap) : APure Try.prog 64 [.flt .f64 x] H (.flt .f64 (fAbs x)) := by
 obtain ⟨b, rfl⟩ := Option.isSome_iff_exists.1 hs
 clear hs
 refine res_start h_math_Abs (by simp) ?_
 refine run_mn (φ := φ0) (pm := pmR 0 [] 0) 20 (nk := [(.atom 0, .flt .f64)]) (fs := []) (xs := [.flt .f64 (some b)]) (ws := []) (env := [(0, .nd 0 (.flt .f64))]) ?_ ?_ tb_ok ap_ok ?_
 ·
  refine midN_in ?_ .nil _ ?_ ?_ ?_
  ·
   exact (.cons rfl ⟨_, rfl, hb⟩ .nil)
  ·
   exact .nil
  ·
   exact sepOk_ro rfl
  ·
   exact .nil
 ·
  exact (envEq rfl (dNd rfl ⟨_, rfl, hb⟩) envNil)
 refine all1 (by kernel_rfl) ?_
 intro vs ls H1 E1 st hE
 have b2 := eo st hE 3 (.flt .f64 (some b))
 have g3 : Grew H H1 := (gk st)
 have g4 : Grew H H1 := Grew.trans (Grew.refl _) g3
 clear st hE vs ls
 refine res_call (d := (some 4)) (f := 97) (args := [.tmp 3]) (by kernel_rfl) (R := fun z H' => z = .int .u64 (b : Int) ∧ H' = H1) ?_ ?_
 ·
  show ACalls _ _ [E1 3] _ _
  rw [b2]
  exact k_bits64 H1 b
 rintro z H1 ⟨rfl, rfl⟩
 refine run_mn (φ := φ0) (pm := pmR 0 [] 0) 20 (nk := [(.atom 0, .flt .f64), (.atom 1, .int .u64)]) (fs := []) (xs := [.flt .f64 (some b), .int .u64 (b : Int)]) (ws := []) (env := [(3, .nd 0 (.flt .f64)), (4, .nd 1 (.int .u64))]) ?_ ?_ tb_ok ap_ok ?_
 ·
  refine midN_in ?_ .nil _ ?_ ?_ ?_
  ·
   exact (.cons rfl ⟨_, rfl, hb⟩ (.cons rfl ⟨_, rfl⟩ .nil))
  ·
   exact .nil
  ·
   exact sepOk_ro rfl
  ·
   exact .nil
 ·
  exact (envEq (put_ne rfl b2) (dNd rfl ⟨_, rfl, hb⟩) (envEq put_same (dNd rfl ⟨_, rfl⟩) envNil))
 refine all1 (by kernel_rfl) ?_
 intro vs ls H5 E5 st hE
 obtain ⟨w6, hw6⟩ : ∃ z, z = (IntKind.wrap .u64 (BitVec.ofInt (IntKind.bits .u64) (b : Int) &&& ~~~ BitVec.ofInt (IntKind.bits .u64) 9223372036854775808).toNat) := ⟨_, rfl⟩
 have b7 : E5 5 = .int .u64 w6 := by rw [hw6]; exact eo st hE 5 _
 have g8 : Grew H1 H5 := (gk st)
 have g9 : Grew H H5 := Grew.trans g4 g8
 clear st hE vs ls
 refine res_call (d := (some 6)) (f := 101) (args := [.tmp 5]) (by kernel_rfl) (R := fun z H' => z = .flt .f64 (fAbs (some b)) ∧ H' = H5) ?_ ?_
 ·
  show ACalls _ _ [E5 5] _ _
  rw [b7]
  exact (by rw [hw6]; exact k_absb H5 b hb)
 rintro z H5 ⟨rfl, rfl⟩
 refine run_mn (φ := φ0) (pm := pmR 0 [] 0) 20 (nk := [(.atom 0, .flt .f64), (.atom 1, .int .u64), (.atom 2, .int .u64), (.atom 3, .flt .f64)]) (fs := []) (xs := [.flt .f64 (some b), .int .u64 (b : Int), .int .u64 w6, .flt .f64 (fAbs (some b))]) (ws := []) (env := [(5, .nd 2 (.int .u64)), (6, .nd 3 (.flt .f64))]) ?_ ?_ tb_ok ap_ok ?_
 ·
  refine midN_in ?_ .nil _ ?_ ?_ ?_
  ·
   exact (.cons rfl ⟨_, rfl, hb⟩ (.cons rfl ⟨_, rfl⟩ (.cons rfl ⟨_, rfl⟩ (.cons rfl ⟨_, rfl, fAbs_ok hb⟩ .nil))))
  ·
   exact .nil
  ·
   exact sepOk_ro rfl
  ·
   exact .nil
 ·
  exact (envEq (put_ne rfl b7) (dNd rfl ⟨_, rfl⟩) (envEq put_same (dNd rfl ⟨_, rfl, fAbs_ok hb⟩) envNil))
 refine all1 (by kernel_rfl) ?_
 intro vs ls H10 E10 st hE
 refine res_ex (by kernel_rfl) (end_flat st.inn hE (.inr rfl) (a := .flt .f64 (fAbs (some b))) (by kernel_rfl) (Grew.trans g9 (gk st)) rfl ⟨?_, rfl⟩)
 rfl
theorem k_CellOf (s a b c : Option Nat) (hs : fOk .f32 s) (ha : fOk .f32 a) (hb : fOk .f32 b) (hc : fOk .f32 c) (H : AHeap) : APure Try.prog 23 [.flt .f32 s, .agg [.flt .f32 a, .flt .f32 b, .flt .f32 c]] H (.tuple [.agg (cellX s a b c).1, .int .i64 (cellX s a b c).2]) := by
 refine res_start h_impl_CellOf (by simp) ?_
 refine run_mn (φ := φC) (pm := pmC 0 [(.call 61 [.nd 0 (.flt .f32)], .nd 4 .bool), (.call 62 [.agg [.nd 1 (.flt .f32), .nd 2 (.flt .f32), .nd 3 (.flt .f32)]], .nd 5 .bool)] 10) 20 (nk := [(.atom 0, .flt .f32), (.atom 1, .flt .f32), (.atom 2, .flt .f32), (.atom 3, .flt .f32), (.atom 4, .bool), (.atom 5, .bool)]) (fs := []) (xs := [.flt .f32 s, .flt .f32 a, .flt .f32 b, .flt .f32 c, .bool (sideX s), .bool (finX a b c)]) (ws := []) (env := [(0, .nd 0 (.flt .f32)), (1, .agg [.nd 1 (.flt .f32), .nd 2 (.flt .f32), .nd 3 (.flt .f32)])]) ?_ ?_ tb_ok apC_ok ?_
 ·
  refine midN_in ?_ .nil _ ?_ ?_ ?_
  ·
   exact (.cons rfl ⟨_, rfl, hs⟩ (.cons rfl ⟨_, rfl, ha⟩ (.cons rfl ⟨_, rfl, hb⟩ (.cons rfl ⟨_, rfl, hc⟩ (.cons rfl ⟨_, rfl⟩ (.cons rfl ⟨_, rfl⟩ .nil))))))
  ·
   exact .nil
  ·
   exact sepOk_ro rfl
  ·
   exact (.cons (rule_call (args := [.flt .f32 s]) (dlCons (dNd rfl ⟨_, rfl, hs⟩) dlNil) (dNd rfl ⟨_, rfl⟩) (fun H9 hk => k_isSideX s hs H9)) (.cons (rule_call (args := [.agg [.flt .f32 a, .flt .f32 b, .flt .f32 c]]) (dlCons (dAgg (dlCons (dNd rfl ⟨_, rfl, ha⟩) (dlCons (dNd rfl ⟨_, rfl, hb⟩) (dlCons (dNd rfl ⟨_, rfl, hc⟩) dlNil)))) dlNil) (dNd rfl ⟨_, rfl⟩) (fun H9 hk => k_finX a b c ha hb hc H9)) .nil))
 ·
  exact (envEq rfl (dNd rfl ⟨_, rfl, hs⟩) (envEq rfl (dAgg (dlCons (dNd rfl ⟨_, rfl, ha⟩) (dlCons (dNd rfl ⟨_, rfl, hb⟩) (dlCons (dNd rfl ⟨_, rfl, hc⟩) dlNil)))) envNil))
 refine all3 (by kernel_rfl) ?_ ?_ ?_
 ·
  intro vs ls H1 E1 st hE
  have f2 : (sideX s) = false := bf st 0
  refine res_ex (by kernel_rfl) (end_flat st.inn hE (.inr rfl) (a := .tuple [.agg [.int .i32 0, .int .i32 0, .int .i32 0], .int .i64 2]) (by kernel_rfl) (Grew.trans (Grew.refl _) (gk st)) rfl ⟨?_, rfl⟩)
  simp only [cellX, f2, if_true, Bool.false_eq_true, if_false]
 ·
  intro vs ls H3 E3 st hE
  have f4 : (finX a b c) = false := bf st 0
  have f5 : (sideX s) = true := bf st 1
  refine res_ex (by kernel_rfl) (end_flat st.inn hE (.inr rfl) (a := .tuple [.agg [.int .i32 0, .int .i32 0, .int .i32 0], .int .i64 2]) (by kernel_rfl) (Grew.trans (Grew.refl _) (gk st)) rfl ⟨?_, rfl⟩)
  simp only [cellX, f4, f5, if_true, Bool.false_eq_true, if_false]
 ·
  intro vs ls H6 E6 st hE
  have f7 : (finX a b c) = true := bf st 0
  have f8 : (sideX s) = true := bf st 1
  obtain ⟨p9, e10, r11, n12⟩ := ptr_of st.inn hE 4 1 (by kernel_rfl) (ds := [.int .i32 0, .int .i32 0, .int .i32 0]) (by kernel_rfl)
  have op9 : H.next ≤ p9 := Nat.le_trans (Nat.le_refl _) (n12 (Nat.le_of_ble_eq_true rfl))
  obtain ⟨p13, e14, r15, n16⟩ := ptr_of st.inn hE 6 2 (by kernel_rfl) (ds := [.int .i32 0, .int .i32 0, .int .i32 0]) (by kernel_rfl)
  have op13 : H.next ≤ p13 := Nat.le_trans (Nat.le_refl _) (n16 (Nat.le_of_ble_eq_true rfl))
  have ne17 : Apart p9 p13 := ⟨ptr_ne st.inn hE 4 1 6 2 (by kernel_rfl) (by kernel_rfl) (cs := [.lit (.int .i32 0), .lit (.int .i32 0), .lit (.int .i32 0)]) (by kernel_rfl) (by decide) e10 e14⟩
  obtain ⟨w18, hw18⟩ : ∃ z, z = (fInt .down (wid (fop .quo .f32 a s))) := ⟨_, rfl⟩
  have b19 : E6 30 = .flt .f64 w18 := by rw [hw18]; exact eo st hE 30 _
  have k20 : HasKd (.flt .f64) (.flt .f64 w18) := b19 ▸ kd_env st.inn hE 30 (kd := .flt .f64) (by kernel_rfl)
  have b21 := eo st hE 7 (.int .i64 0)
  have b22 : E6 9 = .flt .f64 w18 := by rw [hw18]; exact eo st hE 9 _
  have b23 := eo st hE 21 (.int .i64 0)
  have b24 := eo st hE 22 (.bool true)
  have b25 := eo st hE 20 (.agg [.flt .f32 a, .flt .f32 b, .flt .f32 c])
  have b26 := eo st hE 23 (.int .i64 0)
  have b27 := eo st hE 24 (.flt .f32 a)
  have b28 := eo st hE 8 (.flt .f32 a)
  have b29 := eo st hE 0 (.flt .f32 s)
  have b30 := eo st hE 25 (.flt .f32 a)
  have b31 := eo st hE 26 (.flt .f32 s)
  obtain ⟨w32, hw32⟩ : ∃ z, z = (fop .quo .f32 a s) := ⟨_, rfl⟩
  have b33 : E6 27 = .flt .f32 w32 := by rw [hw32]; exact eo st hE 27 _
  obtain ⟨w34, hw34⟩ : ∃ z, z = (wid (fop .quo .f32 a s)) := ⟨_, rfl⟩
  have b35 : E6 28 = .flt .f64 w34 := by rw [hw34]; exact eo st hE 28 _
  have k36 : HasKd (.f64n) (.flt .f64 w34) := b35 ▸ kd_env st.inn hE 28 (kd := .f64n) (by kernel_rfl)
  have b37 : E6 29 = .flt .f64 w18 := by rw [hw18]; exact eo st hE 29 _
  have g38 : Grew H H6 := (gk st)
  have g39 : Grew H H6 := Grew.trans (Grew.refl _) g38
  clear st hE vs ls
  refine res_call (d := (some 31)) (f := 64) (args := [.tmp 30]) (by kernel_rfl) (R := fun z H' => z = .flt .f64 (fAbs (quoC a s)) ∧ H' = H6) ?_ ?_
  ·
   show ACalls _ _ [E6 30] _ _
   rw [b19]
   exact (by rw [hw18]; exact k_Abs (quoC a s) (quoC_some ha hs (finX_all f7).1 (sideX_pos f8).1 (sideX_pos f8).2) (quoC_ok _ _) H6)
  rintro z H6 ⟨rfl, rfl⟩
  refine run_mn (φ := φC) (pm := pmC 1 [] 10) 20 (nk := [(.atom 0, .flt .f32), (.atom 1, .flt .f32), (.atom 2, .flt .f32), (.atom 3, .flt .f32), (.atom 4, .bool), (.atom 5, .bool), (.atom 6, .flt .f64), (.atom 7, .flt .f32), (.atom 8, .f64n), (.atom 9, .flt .f64)]) (fs := []) (xs := [.flt .f32 s, .flt .f32 a, .flt .f32 b, .flt .f32 c, .bool (sideX s), .bool (finX a b c), .flt .f64 w18, .flt .f32 w32, .flt .f64 w34, .flt .f64 (fAbs (quoC a s))]) (ws := [⟨p13, 0, [.lit (.int .i32 0), .lit (.int .i32 0), .lit (.int .i32 0)], false⟩, ⟨p9, 0, [.lit (.int .i32 0), .lit (.int .i32 0), .lit (.int .i32 0)], true⟩]) (env := [(30, .nd 6 (.flt .f64)), (4, .ptr 1 0), (7, .lit (.int .i64 0)), (9, .nd 6 (.flt .f64)), (6, .ptr 0 0), (21, .lit (.int .i64 0)), (22, .lit (.bool true)), (20, .agg [.nd 1 (.flt .f32), .nd 2 (.flt .f32), .nd 3 (.flt .f32)]), (23, .lit (.int .i64 0)), (24, .nd 1 (.flt .f32)), (8, .nd 1 (.flt .f32)), (0, .nd 0 (.flt .f32)), (25, .nd 1 (.flt .f32)), (26, .nd 0 (.flt .f32)), (27, .nd 7 (.flt .f32)), (28, .nd 8 .f64n), (29, .nd 6 (.flt .f64)), (31, .nd 9 (.flt .f64))]) ?_ ?_ tb_ok apC_ok ?_
  ·
   refine midN_in ?_ .nil _ ?_ ?_ ?_
   ·
    exact (.cons rfl ⟨_, rfl, hs⟩ (.cons rfl ⟨_, rfl, ha⟩ (.cons rfl ⟨_, rfl, hb⟩ (.cons rfl ⟨_, rfl, hc⟩ (.cons rfl ⟨_, rfl⟩ (.cons rfl ⟨_, rfl⟩ (.cons rfl k20 (.cons rfl ⟨_, rfl, hw32 ▸ fop_ok⟩ (.cons rfl k36 (.cons rfl ⟨_, rfl, fAbs_ok (quoC_ok _ _)⟩ .nil))))))))))
   ·
    exact (.cons (win_row r15 (dlCons (dLit rfl) (dlCons (dLit rfl) (dlCons (dLit rfl) dlNil)))) (.cons (win_own r11 (dlCons (dLit rfl) (dlCons (dLit rfl) (dlCons (dLit rfl) dlNil)))) .nil))
   ·
    exact ⟨(fun v hv h => (by simp at hv; rcases hv with rfl <;> first | (simp at h; done) | exact Apart.ne (by assumption) | exact (Apart.ne (by assumption)).symm)), ⟨(fun v hv => (by cases hv)), trivial⟩⟩
   ·
    exact .nil
  ·
   exact (envEq (put_ne rfl b19) (dNd rfl k20) (envEq (put_ne rfl e10) (dPtr (l := p9) (o := 0) rfl) (envEq (put_ne rfl b21) (dLit rfl) (envEq (put_ne rfl b22) (dNd rfl k20) (envEq (put_ne rfl e14) (dPtr (l := p13) (o := 0) rfl) (envEq (put_ne rfl b23) (dLit rfl) (envEq (put_ne rfl b24) (dLit rfl) (envEq (put_ne rfl b25) (dAgg (dlCons (dNd rfl ⟨_, rfl, ha⟩) (dlCons (dNd rfl ⟨_, rfl, hb⟩) (dlCons (dNd rfl ⟨_, rfl, hc⟩) dlNil)))) (envEq (put_ne rfl b26) (dLit rfl) (envEq (put_ne rfl b27) (dNd rfl ⟨_, rfl, ha⟩) (envEq (put_ne rfl b28) (dNd rfl ⟨_, rfl, ha⟩) (envEq (put_ne rfl b29) (dNd rfl ⟨_, rfl, hs⟩) (envEq (put_ne rfl b30) (dNd rfl ⟨_, rfl, ha⟩) (envEq (put_ne rfl b31) (dNd rfl ⟨_, rfl, hs⟩) (envEq (put_ne rfl b33) (dNd rfl ⟨_, rfl, hw32 ▸ fop_ok⟩) (envEq (put_ne rfl b35) (dNd rfl k36) (envEq (put_ne rfl b37) (dNd rfl k20) (envEq put_same (dNd rfl ⟨_, rfl, fAbs_ok (quoC_ok _ _)⟩) envNil))))))))))))))))))
  refine all2 (by kernel_rfl) ?_ ?_
  ·
   intro vs ls H40 E40 st hE
   have f41 : (ford .f64 (some 4696837146684686336) (fAbs (quoC a s)) == some .lt) = true := bf st 0
   refine res_ex (by kernel_rfl) (end_flat st.inn hE (.inr rfl) (a := .tuple [.agg [.int .i32 0, .int .i32 0, .int .i32 0], .int .i64 3]) (by kernel_rfl) (grew_own g39 (st.inn.kept) ⟨op9, trivial⟩) rfl ⟨?_, rfl⟩)
   have hbig42 : bigC (quoC a s) = true := f41
   simp only [cellX, f7, f8, hbig42, if_true, Bool.false_eq_true, if_false]
  ·
   intro vs ls H43 E43 st hE
   have f44 : (ford .f64 (some 4696837146684686336) (fAbs (quoC a s)) == some .lt) = false := bf st 0
   have b45 := eo st hE 35 (.flt .f64 w18)
   have b46 := eo st hE 6 (.ptr p13 0)
   have b47 := eo st hE 34 (.int .i64 0)
   have b48 := eo st hE 21 (.int .i64 0)
   have b49 := eo st hE 22 (.bool true)
   have b50 := eo st hE 20 (.agg [.flt .f32 a, .flt .f32 b, .flt .f32 c])
   have b51 := eo st hE 23 (.int .i64 0)
   have b52 := eo st hE 24 (.flt .f32 a)
   have b53 := eo st hE 8 (.flt .f32 a)
   have b54 := eo st hE 0 (.flt .f32 s)
   have b55 := eo st hE 25 (.flt .f32 a)
   have b56 := eo st hE 26 (.flt .f32 s)
   have b57 := eo st hE 27 (.flt .f32 w32)
   have b58 := eo st hE 28 (.flt .f64 w34)
   have b59 := eo st hE 29 (.flt .f64 w18)
   have b60 := eo st hE 9 (.flt .f64 w18)
   have b61 := eo st hE 30 (.flt .f64 w18)
   have b62 := eo st hE 31 (.flt .f64 (fAbs (quoC a s)))
   obtain ⟨w63, hw63⟩ : ∃ z, z = (ford .f64 (some 4696837146684686336) (fAbs (quoC a s)) == some .lt) := ⟨_, rfl⟩
   have b64 : E43 32 = .bool w63 := by rw [hw63]; exact eo st hE 32 _
   have b65 := eo st hE 4 (.ptr p9 0)
   have b66 := eo st hE 7 (.int .i64 0)
   have g67 : Grew H6 H43 := (gk st)
   have g68 : Grew H H43 := Grew.trans g39 g67
   have r69 := g67.at r15
   have r70 := g67.at r11
   clear st hE vs ls
   have hbig71 : bigC (quoC a s) = false := f44
   refine res_conv (d := some 36) (c := .fi .i32) (x := .tmp 35) (r := .int .i32 (intQ (quoC a s))) (by kernel_rfl) (cv_fi b45 (by rw [hw18]; exact intQ_of (quoC_ok _ _) (quoC_some ha hs (finX_all f7).1 (sideX_pos f8).1 (sideX_pos f8).2) hbig71)) ?_
   refine run_mn (φ := φC) (pm := pmC 0 [] 10) 20 (nk := [(.atom 0, .flt .f32), (.atom 1, .flt .f32), (.atom 2, .flt .f32), (.atom 3, .flt .f32), (.atom 4, .bool), (.atom 5, .bool), (.atom 6, .flt .f64), (.atom 7, .flt .f32), (.atom 8, .f64n), (.atom 9, .flt .f64), (.atom 10, .bool), (.atom 11, .int .i32)]) (fs := []) (xs := [.flt .f32 s, .flt .f32 a, .flt .f32 b, .flt .f32 c, .bool (sideX s), .bool (finX a b c), .flt .f64 w18, .flt .f32 w32, .flt .f64 w34, .flt .f64 (fAbs (quoC a s)), .bool w63, .int .i32 (intQ (quoC a s))]) (ws := [⟨p9, 0, [.lit (.int .i32 0), .lit (.int .i32 0), .lit (.int .i32 0)], true⟩, ⟨p13, 0, [.lit (.int .i32 0), .lit (.int .i32 0), .lit (.int .i32 0)], true⟩]) (env := [(35, .nd 6 (.flt .f64)), (6, .ptr 1 0), (34, .lit (.int .i64 0)), (21, .lit (.int .i64 0)), (22, .lit (.bool true)), (20, .agg [.nd 1 (.flt .f32), .nd 2 (.flt .f32), .nd 3 (.flt .f32)]), (23, .lit (.int .i64 0)), (24, .nd 1 (.flt .f32)), (8, .nd 1 (.flt .f32)), (0, .nd 0 (.flt .f32)), (25, .nd 1 (.flt .f32)), (26, .nd 0 (.flt .f32)), (27, .nd 7 (.flt .f32)), (28, .nd 8 .f64n), (29, .nd 6 (.flt .f64)), (9, .nd 6 (.flt .f64)), (30, .nd 6 (.flt .f64)), (31, .nd 9 (.flt .f64)), (32, .nd 10 .bool), (4, .ptr 0 0), (7, .lit (.int .i64 0)), (36, .nd 11 (.int .i32))]) ?_ ?_ tb_ok apC_ok ?_
   ·
    refine midN_in ?_ .nil _ ?_ ?_ ?_
    ·
     exact (.cons rfl ⟨_, rfl, hs⟩ (.cons rfl ⟨_, rfl, ha⟩ (.cons rfl ⟨_, rfl, hb⟩ (.cons rfl ⟨_, rfl, hc⟩ (.cons rfl ⟨_, rfl⟩ (.cons rfl ⟨_, rfl⟩ (.cons rfl k20 (.cons rfl ⟨_, rfl, hw32 ▸ fop_ok⟩ (.cons rfl k36 (.cons rfl ⟨_, rfl, fAbs_ok (quoC_ok _ _)⟩ (.cons rfl ⟨_, rfl⟩ (.cons rfl ⟨_, rfl⟩ .nil))))))))))))
    ·
     exact (.cons (win_own r70 (dlCons (dLit rfl) (dlCons (dLit rfl) (dlCons (dLit rfl) dlNil)))) (.cons (win_own r69 (dlCons (dLit rfl) (dlCons (dLit rfl) (dlCons (dLit rfl) dlNil)))) .nil))
    ·
     exact ⟨(fun v hv h => (by simp at hv; rcases hv with rfl <;> first | (simp at h; done) | exact Apart.ne (by assumption) | exact (Apart.ne (by assumption)).symm)), ⟨(fun v hv => (by cases hv)), trivial⟩⟩
    ·
     exact .nil
   ·
    exact (envEq (put_ne rfl b45) (dNd rfl k20) (envEq (put_ne rfl b46) (dPtr (l := p13) (o := 0) rfl) (envEq (put_ne rfl b47) (dLit rfl) (envEq (put_ne rfl b48) (dLit rfl) (envEq (put_ne rfl b49) (dLit rfl) (envEq (put_ne rfl b50) (dAgg (dlCons (dNd rfl ⟨_, rfl, ha⟩) (dlCons (dNd rfl ⟨_, rfl, hb⟩) (dlCons (dNd rfl ⟨_, rfl, hc⟩) dlNil)))) (envEq (put_ne rfl b51) (dLit rfl) (envEq (put_ne rfl b52) (dNd rfl ⟨_, rfl, ha⟩) (envEq (put_ne rfl b53) (dNd rfl ⟨_, rfl, ha⟩) (envEq (put_ne rfl b54) (dNd rfl ⟨_, rfl, hs⟩) (envEq (put_ne rfl b55) (dNd rfl ⟨_, rfl, ha⟩) (envEq (put_ne rfl b56) (dNd rfl ⟨_, rfl, hs⟩) (envEq (put_ne rfl b57) (dNd rfl ⟨_, rfl, hw32 ▸ fop_ok⟩) (envEq (put_ne rfl b58) (dNd rfl k36) (envEq (put_ne rfl b59) (dNd rfl k20) (envEq (put_ne rfl b60) (dNd rfl k20) (envEq (put_ne rfl b61) (dNd rfl k20) (envEq (put_ne rfl b62) (dNd rfl ⟨_, rfl, fAbs_ok (quoC_ok _ _)⟩) (envEq (put_ne rfl b64) (dNd rfl ⟨_, rfl⟩) (envEq (put_ne rfl b65) (dPtr (l := p9) (o := 0) rfl) (envEq (put_ne rfl b66) (dLit rfl) (envEq put_same (dNd rfl ⟨_, rfl⟩) envNil))))))))))))))))))))))
   refine all1 (by kernel_rfl) ?_
   intro vs ls H72 E72 st hE
   have r73 : H72.get p9 = some (.row [.int .i32 0, .int .i32 0, .int .i32 0] true) := row_whole st.inn 0 (l := p9) (b := 0) rfl (by kernel_rfl)
   have r74 : H72.get p13 = some (.row [.int .i32 (intQ (quoC a s)), .int .i32 0, .int .i32 0] true) := row_whole st.inn 1 (l := p13) (b := 0) rfl (by kernel_rfl)
   obtain ⟨w75, hw75⟩ : ∃ z, z = (fInt .down (wid (fop .quo .f32 b s))) := ⟨_, rfl⟩
   have b76 : E72 30 = .flt .f64 w75 := by rw [hw75]; exact eo st hE 30 _
   have k77 : HasKd (.flt .f64) (.flt .f64 w75) := b76 ▸ kd_env st.inn hE 30 (kd := .flt .f64) (by kernel_rfl)
   have b79 := eo st hE 32 (.bool w63)
   have b80 := eo st hE 4 (.ptr p9 0)
   have b81 := eo st hE 7 (.int .i64 1)
   have b82 : E72 9 = .flt .f64 w75 := by rw [hw75]; exact eo st hE 9 _
   have b83 := eo st hE 35 (.flt .f64 w18)
   have b84 := eo st hE 6 (.ptr p13 0)
   have b85 := eo st hE 34 (.int .i64 0)
   have b86 := eo st hE 37 (.ptr p13 0)
   have b87 := eo st hE 36 (.int .i32 (intQ (quoC a s)))
   have b88 := eo st hE 21 (.int .i64 1)
   have b89 := eo st hE 38 (.int .i64 1)
   have b90 := eo st hE 22 (.bool true)
   have b91 := eo st hE 20 (.agg [.flt .f32 a, .flt .f32 b, .flt .f32 c])
   have b92 := eo st hE 23 (.int .i64 1)
   have b93 := eo st hE 24 (.flt .f32 b)
   have b94 := eo st hE 8 (.flt .f32 b)
   have b95 := eo st hE 0 (.flt .f32 s)
   have b96 := eo st hE 25 (.flt .f32 b)
   have b97 := eo st hE 26 (.flt .f32 s)
   obtain ⟨w98, hw98⟩ : ∃ z, z = (fop .quo .f32 b s) := ⟨_, rfl⟩
   have b99 : E72 27 = .flt .f32 w98 := by rw [hw98]; exact eo st hE 27 _
   obtain ⟨w100, hw100⟩ : ∃ z, z = (wid (fop .quo .f32 b s)) := ⟨_, rfl⟩
   have b101 : E72 28 = .flt .f64 w100 := by rw [hw100]; exact eo st hE 28 _
   have k102 : HasKd (.f64n) (.flt .f64 w100) := b101 ▸ kd_env st.inn hE 28 (kd := .f64n) (by kernel_rfl)
   have b103 : E72 29 = .flt .f64 w75 := by rw [hw75]; exact eo st hE 29 _
   have g105 : Grew H H72 := grew_own g68 st.inn.kept ⟨op9, ⟨op13, trivial⟩⟩
   clear st hE vs ls
   refine res_call (d := (some 31)) (f := 64) (args := [.tmp 30]) (by kernel_rfl) (R := fun z H' => z = .flt .f64 (fAbs (quoC b s)) ∧ H' = H72) ?_ ?_
   ·
    show ACalls _ _ [E72 30] _ _
    rw [b76]
    exact (by rw [hw75]; exact k_Abs (quoC b s) (quoC_some hb hs (finX_all f7).2.1 (sideX_pos f8).1 (sideX_pos f8).2) (quoC_ok _ _) H72)
   rintro z H72 ⟨rfl, rfl⟩
   refine run_mn (φ := φC) (pm := pmC 0 [] 10) 20 (nk := [(.atom 0, .flt .f32), (.atom 1, .flt .f32), (.atom 2, .flt .f32), (.atom 3, .flt .f32), (.atom 4, .bool), (.atom 5, .bool), (.atom 6, .flt .f64), (.atom 7, .flt .f32), (.atom 8, .f64n), (.atom 9, .flt .f64), (.atom 10, .bool), (.atom 11, .int .i32), (.atom 12, .flt .f64), (.atom 13, .flt .f32), (.atom 14, .f64n), (.atom 15, .flt .f64)]) (fs := []) (xs := [.flt .f32 s, .flt .f32 a, .flt .f32 b, .flt .f32 c, .bool (sideX s), .bool (finX a b c), .flt .f64 w18, .flt .f32 w32, .flt .f64 w34, .flt .f64 (fAbs (quoC a s)), .bool w63, .int .i32 (intQ (quoC a s)), .flt .f64 w75, .flt .f32 w98, .flt .f64 w100, .flt .f64 (fAbs (quoC b s))]) (ws := [⟨p9, 0, [.lit (.int .i32 0), .lit (.int .i32 0), .lit (.int .i32 0)], true⟩, ⟨p13, 0, [.nd 11 (.int .i32), .lit (.int .i32 0), .lit (.int .i32 0)], true⟩]) (env := [(30, .nd 12 (.flt .f64)), (32, .nd 10 .bool), (4, .ptr 0 0), (7, .lit (.int .i64 1)), (9, .nd 12 (.flt .f64)), (35, .nd 6 (.flt .f64)), (6, .ptr 1 0), (34, .lit (.int .i64 0)), (37, .ptr 1 0), (36, .nd 11 (.int .i32)), (21, .lit (.int .i64 1)), (38, .lit (.int .i64 1)), (22, .lit (.bool true)), (20, .agg [.nd 1 (.flt .f32), .nd 2 (.flt .f32), .nd 3 (.flt .f32)]), (23, .lit (.int .i64 1)), (24, .nd 2 (.flt .f32)), (8, .nd 2 (.flt .f32)), (0, .nd 0 (.flt .f32)), (25, .nd 2 (.flt .f32)), (26, .nd 0 (.flt .f32)), (27, .nd 13 (.flt .f32)), (28, .nd 14 .f64n), (29, .nd 12 (.flt .f64)), (31, .nd 15 (.flt .f64))]) ?_ ?_ tb_ok apC_ok ?_
   ·
    refine midN_in ?_ .nil _ ?_ ?_ ?_
    ·
     exact (.cons rfl ⟨_, rfl, hs⟩ (.cons rfl ⟨_, rfl, ha⟩ (.cons rfl ⟨_, rfl, hb⟩ (.cons rfl ⟨_, rfl, hc⟩ (.cons rfl ⟨_, rfl⟩ (.cons rfl ⟨_, rfl⟩ (.cons rfl k20 (.cons rfl ⟨_, rfl, hw32 ▸ fop_ok⟩ (.cons rfl k36 (.cons rfl ⟨_, rfl, fAbs_ok (quoC_ok _ _)⟩ (.cons rfl ⟨_, rfl⟩ (.cons rfl ⟨_, rfl⟩ (.cons rfl k77 (.cons rfl ⟨_, rfl, hw98 ▸ fop_ok⟩ (.cons rfl k102 (.cons rfl ⟨_, rfl, fAbs_ok (quoC_ok _ _)⟩ .nil))))))))))))))))
    ·
     exact (.cons (win_own r73 (dlCons (dLit rfl) (dlCons (dLit rfl) (dlCons (dLit rfl) dlNil)))) (.cons (win_own r74 (dlCons (dNd rfl ⟨_, rfl⟩) (dlCons (dLit rfl) (dlCons (dLit rfl) dlNil)))) .nil))
    ·
     exact ⟨(fun v hv h => (by simp at hv; rcases hv with rfl <;> first | (simp at h; done) | exact Apart.ne (by assumption) | exact (Apart.ne (by assumption)).symm)), ⟨(fun v hv => (by cases hv)), trivial⟩⟩
    ·
     exact .nil
   ·
    exact (envEq (put_ne rfl b76) (dNd rfl k77) (envEq (put_ne rfl b79) (dNd rfl ⟨_, rfl⟩) (envEq (put_ne rfl b80) (dPtr (l := p9) (o := 0) rfl) (envEq (put_ne rfl b81) (dLit rfl) (envEq (put_ne rfl b82) (dNd rfl k77) (envEq (put_ne rfl b83) (dNd rfl k20) (envEq (put_ne rfl b84) (dPtr (l := p13) (o := 0) rfl) (envEq (put_ne rfl b85) (dLit rfl) (envEq (put_ne rfl b86) (dPtr (l := p13) (o := 0) rfl) (envEq (put_ne rfl b87) (dNd rfl ⟨_, rfl⟩) (envEq (put_ne rfl b88) (dLit rfl) (envEq (put_ne rfl b89) (dLit rfl) (envEq (put_ne rfl b90) (dLit rfl) (envEq (put_ne rfl b91) (dAgg (dlCons (dNd rfl ⟨_, rfl, ha⟩) (dlCons (dNd rfl ⟨_, rfl, hb⟩) (dlCons (dNd rfl ⟨_, rfl, hc⟩) dlNil)))) (envEq (put_ne rfl b92) (dLit rfl) (envEq (put_ne rfl b93) (dNd rfl ⟨_, rfl, hb⟩) (envEq (put_ne rfl b94) (dNd rfl ⟨_, rfl, hb⟩) (envEq (put_ne rfl b95) (dNd rfl ⟨_, rfl, hs⟩) (envEq (put_ne rfl b96) (dNd rfl ⟨_, rfl, hb⟩) (envEq (put_ne rfl b97) (dNd rfl ⟨_, rfl, hs⟩) (envEq (put_ne rfl b99) (dNd rfl ⟨_, rfl, hw98 ▸ fop_ok⟩) (envEq (put_ne rfl b101) (dNd rfl k102) (envEq (put_ne rfl b103) (dNd rfl k77) (envEq put_same (dNd rfl ⟨_, rfl, fAbs_ok (quoC_ok _ _)⟩) envNil))))))))))))))))))))))))
   refine all2 (by kernel_rfl) ?_ ?_
   ·
    intro vs ls H106 E106 st hE
    have f107 : (ford .f64 (some 4696837146684686336) (fAbs (quoC b s)) == some .lt) = true := bf st 0
    refine res_ex (by kernel_rfl) (end_flat st.inn hE (.inr rfl) (a := .tuple [.agg [.int .i32 0, .int .i32 0, .int .i32 0], .int .i64 3]) (by kernel_rfl) (grew_own g105 (st.inn.kept) ⟨op9, ⟨op13, trivial⟩⟩) rfl ⟨?_, rfl⟩)
    have hbig108 : bigC (quoC b s) = true := f107
    simp only [cellX, f7, f8, hbig71, hbig108, if_true, Bool.false_eq_true, if_false]
   ·
    intro vs ls H109 E109 st hE
    have f110 : (ford .f64 (some 4696837146684686336) (fAbs (quoC b s)) == some .lt) = false := bf st 0
    have b111 := eo st hE 35 (.flt .f64 w75)
    have b112 := eo st hE 6 (.ptr p13 0)
    have b113 := eo st hE 34 (.int .i64 1)
    have b114 := eo st hE 37 (.ptr p13 0)
    have b116 := eo st hE 21 (.int .i64 1)
    have b117 := eo st hE 38 (.int .i64 1)
    have b118 := eo st hE 22 (.bool true)
    have b119 := eo st hE 20 (.agg [.flt .f32 a, .flt .f32 b, .flt .f32 c])
    have b120 := eo st hE 23 (.int .i64 1)
    have b121 := eo st hE 24 (.flt .f32 b)
    have b122 := eo st hE 8 (.flt .f32 b)
    have b123 := eo st hE 0 (.flt .f32 s)
    have b124 := eo st hE 25 (.flt .f32 b)
    have b125 := eo st hE 26 (.flt .f32 s)
    have b126 := eo st hE 27 (.flt .f32 w98)
    have b127 := eo st hE 28 (.flt .f64 w100)
    have b128 := eo st hE 29 (.flt .f64 w75)
    have b129 := eo st hE 9 (.flt .f64 w75)
    have b130 := eo st hE 30 (.flt .f64 w75)
    have b131 := eo st hE 31 (.flt .f64 (fAbs (quoC b s)))
    obtain ⟨w132, hw132⟩ : ∃ z, z = (ford .f64 (some 4696837146684686336) (fAbs (quoC b s)) == some .lt) := ⟨_, rfl⟩
    have b133 : E109 32 = .bool w132 := by rw [hw132]; exact eo st hE 32 _
    have b134 := eo st hE 4 (.ptr p9 0)
    have b135 := eo st hE 7 (.int .i64 1)
    have g136 : Grew H72 H109 := (gk st)
    have g137 : Grew H H109 := Grew.trans g105 g136
    have r138 := g136.at r73
    have r139 := g136.at r74
    clear st hE vs ls
    have hbig140 : bigC (quoC b s) = false := f110
    refine res_conv (d := some 36) (c := .fi .i32) (x := .tmp 35) (r := .int .i32 (intQ (quoC b s))) (by kernel_rfl) (cv_fi b111 (by rw [hw75]; exact intQ_of (quoC_ok _ _) (quoC_some hb hs (finX_all f7).2.1 (sideX_pos f8).1 (sideX_pos f8).2) hbig140)) ?_
    refine run_mn (φ := φC) (pm := pmC 0 [] 10) 20 (nk := [(.atom 0, .flt .f32), (.atom 1, .flt .f32), (.atom 2, .flt .f32), (.atom 3, .flt .f32), (.atom 4, .bool), (.atom 5, .bool), (.atom 6, .flt .f64), (.atom 7, .flt .f32), (.atom 8, .f64n), (.atom 9, .flt .f64), (.atom 10, .bool), (.atom 11, .int .i32), (.atom 12, .flt .f64), (.atom 13, .flt .f32), (.atom 14, .f64n), (.atom 15, .flt .f64), (.atom 16, .bool), (.atom 17, .int .i32)]) (fs := []) (xs := [.flt .f32 s, .flt .f32 a, .flt .f32 b, .flt .f32 c, .bool (sideX s), .bool (finX a b c), .flt .f64 w18, .flt .f32 w32, .flt .f64 w34, .flt .f64 (fAbs (quoC a s)), .bool w63, .int .i32 (intQ (quoC a s)), .flt .f64 w75, .flt .f32 w98, .flt .f64 w100, .flt .f64 (fAbs (quoC b s)), .bool w132, .int .i32 (intQ (quoC b s))]) (ws := [⟨p9, 0, [.lit (.int .i32 0), .lit (.int .i32 0), .lit (.int .i32 0)], true⟩, ⟨p13, 0, [.nd 11 (.int .i32), .lit (.int .i32 0), .lit (.int .i32 0)], true⟩]) (env := [(35, .nd 12 (.flt .f64)), (6, .ptr 1 0), (34, .lit (.int .i64 1)), (37, .ptr 1 0), (21, .lit (.int .i64 1)), (38, .lit (.int .i64 1)), (22, .lit (.bool true)), (20, .agg [.nd 1 (.flt .f32), .nd 2 (.flt .f32), .nd 3 (.flt .f32)]), (23, .lit (.int .i64 1)), (24, .nd 2 (.flt .f32)), (8, .nd 2 (.flt .f32)), (0, .nd 0 (.flt .f32)), (25, .nd 2 (.flt .f32)), (26, .nd 0 (.flt .f32)), (27, .nd 13 (.flt .f32)), (28, .nd 14 .f64n), (29, .nd 12 (.flt .f64)), (9, .nd 12 (.flt .f64)), (30, .nd 12 (.flt .f64)), (31, .nd 15 (.flt .f64)), (32, .nd 16 .bool), (4, .ptr 0 0), (7, .lit (.int .i64 1)), (36, .nd 17 (.int .i32))]) ?_ ?_ tb_ok apC_ok ?_
    ·
     refine midN_in ?_ .nil _ ?_ ?_ ?_
     ·
      exact (.cons rfl ⟨_, rfl, hs⟩ (.cons rfl ⟨_, rfl, ha⟩ (.cons rfl ⟨_, rfl, hb⟩ (.cons rfl ⟨_, rfl, hc⟩ (.cons rfl ⟨_, rfl⟩ (.cons rfl ⟨_, rfl⟩ (.cons rfl k20 (.cons rfl ⟨_, rfl, hw32 ▸ fop_ok⟩ (.cons rfl k36 (.cons rfl ⟨_, rfl, fAbs_ok (quoC_ok _ _)⟩ (.cons rfl ⟨_, rfl⟩ (.cons rfl ⟨_, rfl⟩ (.cons rfl k77 (.cons rfl ⟨_, rfl, hw98 ▸ fop_ok⟩ (.cons rfl k102 (.cons rfl ⟨_, rfl, fAbs_ok (quoC_ok _ _)⟩ (.cons rfl ⟨_, rfl⟩ (.cons rfl ⟨_, rfl⟩ .nil))))))))))))))))))
     ·
      exact (.cons (win_own r138 (dlCons (dLit rfl) (dlCons (dLit rfl) (dlCons (dLit rfl) dlNil)))) (.cons (win_own r139 (dlCons (dNd rfl ⟨_, rfl⟩) (dlCons (dLit rfl) (dlCons (dLit rfl) dlNil)))) .nil))
     ·
      exact ⟨(fun v hv h => (by simp at hv; rcases hv with rfl <;> first | (simp at h; done) | exact Apart.ne (by assumption) | exact (Apart.ne (by assumption)).symm)), ⟨(fun v hv => (by cases hv)), trivial⟩⟩
     ·
      exact .nil
    ·
     exact (envEq (put_ne rfl b111) (dNd rfl k77) (envEq (put_ne rfl b112) (dPtr (l := p13) (o := 0) rfl) (envEq (put_ne rfl b113) (dLit rfl) (envEq (put_ne rfl b114) (dPtr (l := p13) (o := 0) rfl) (envEq (put_ne rfl b116) (dLit rfl) (envEq (put_ne rfl b117) (dLit rfl) (envEq (put_ne rfl b118) (dLit rfl) (envEq (put_ne rfl b119) (dAgg (dlCons (dNd rfl ⟨_, rfl, ha⟩) (dlCons (dNd rfl ⟨_, rfl, hb⟩) (dlCons (dNd rfl ⟨_, rfl, hc⟩) dlNil)))) (envEq (put_ne rfl b120) (dLit rfl) (envEq (put_ne rfl b121) (dNd rfl ⟨_, rfl, hb⟩) (envEq (put_ne rfl b122) (dNd rfl ⟨_, rfl, hb⟩) (envEq (put_ne rfl b123) (dNd rfl ⟨_, rfl, hs⟩) (envEq (put_ne rfl b124) (dNd rfl ⟨_, rfl, hb⟩) (envEq (put_ne rfl b125) (dNd rfl ⟨_, rfl, hs⟩) (envEq (put_ne rfl b126) (dNd rfl ⟨_, rfl, hw98 ▸ fop_ok⟩) (envEq (put_ne rfl b127) (dNd rfl k102) (envEq (put_ne rfl b128) (dNd rfl k77) (envEq (put_ne rfl b129) (dNd rfl k77) (envEq (put_ne rfl b130) (dNd rfl k77) (envEq (put_ne rfl b131) (dNd rfl ⟨_, rfl, fAbs_ok (quoC_ok _ _)⟩) (envEq (put_ne rfl b133) (dNd rfl ⟨_, rfl⟩) (envEq (put_ne rfl b134) (dPtr (l := p9) (o := 0) rfl) (envEq (put_ne rfl b135) (dLit rfl) (envEq put_same (dNd rfl ⟨_, rfl⟩) envNil))))))))))))))))))))))))
    refine all1 (by kernel_rfl) ?_
    intro vs ls H141 E141 st hE
    have r142 : H141.get p9 = some (.row [.int .i32 0, .int .i32 0, .int .i32 0] true) := row_whole st.inn 0 (l := p9) (b := 0) rfl (by kernel_rfl)
    have r143 : H141.get p13 = some (.row [.int .i32 (intQ (quoC a s)), .int .i32 (intQ (quoC b s)), .int .i32 0] true) := row_whole st.inn 1 (l := p13) (b := 0) rfl (by kernel_rfl)
    obtain ⟨w144, hw144⟩ : ∃ z, z = (fInt .down (wid (fop .quo .f32 c s))) := ⟨_, rfl⟩
    have b145 : E141 30 = .flt .f64 w144 := by rw [hw144]; exact eo st hE 30 _
    have k146 : HasKd (.flt .f64) (.flt .f64 w144) := b145 ▸ kd_env st.inn hE 30 (kd := .flt .f64) (by kernel_rfl)
    have b148 := eo st hE 32 (.bool w132)
    have b149 := eo st hE 4 (.ptr p9 0)
    have b150 := eo st hE 7 (.int .i64 2)
    have b151 : E141 9 = .flt .f64 w144 := by rw [hw144]; exact eo st hE 9 _
    have b152 := eo st hE 35 (.flt .f64 w75)
    have b153 := eo st hE 6 (.ptr p13 0)
    have b154 := eo st hE 34 (.int .i64 1)
    have b155 := eo st hE 37 (.ptr p13 1)
    have b156 := eo st hE 36 (.int .i32 (intQ (quoC b s)))
    have b157 := eo st hE 21 (.int .i64 2)
    have b158 := eo st hE 38 (.int .i64 2)
    have b159 := eo st hE 22 (.bool true)
    have b160 := eo st hE 20 (.agg [.flt .f32 a, .flt .f32 b, .flt .f32 c])
    have b161 := eo st hE 23 (.int .i64 2)
    have b162 := eo st hE 24 (.flt .f32 c)
    have b163 := eo st hE 8 (.flt .f32 c)
    have b164 := eo st hE 0 (.flt .f32 s)
    have b165 := eo st hE 25 (.flt .f32 c)
    have b166 := eo st hE 26 (.flt .f32 s)
    obtain ⟨w167, hw167⟩ : ∃ z, z = (fop .quo .f32 c s) := ⟨_, rfl⟩
    have b168 : E141 27 = .flt .f32 w167 := by rw [hw167]; exact eo st hE 27 _
    obtain ⟨w169, hw169⟩ : ∃ z, z = (wid (fop .quo .f32 c s)) := ⟨_, rfl⟩
    have b170 : E141 28 = .flt .f64 w169 := by rw [hw169]; exact eo st hE 28 _
    have k171 : HasKd (.f64n) (.flt .f64 w169) := b170 ▸ kd_env st.inn hE 28 (kd := .f64n) (by kernel_rfl)
    have b172 : E141 29 = .flt .f64 w144 := by rw [hw144]; exact eo st hE 29 _
    have g174 : Grew H H141 := grew_own g137 st.inn.kept ⟨op9, ⟨op13, trivial⟩⟩
    clear st hE vs ls
    refine res_call (d := (some 31)) (f := 64) (args := [.tmp 30]) (by kernel_rfl) (R := fun z H' => z = .flt .f64 (fAbs (quoC c s)) ∧ H' = H141) ?_ ?_
    ·
     show ACalls _ _ [E141 30] _ _
     rw [b145]
     exact (by rw [hw144]; exact k_Abs (quoC c s) (quoC_some hc hs (finX_all f7).2.2 (sideX_pos f8).1 (sideX_pos f8).2) (quoC_ok _ _) H141)
    rintro z H141 ⟨rfl, rfl⟩
    refine run_mn (φ := φC) (pm := pmC 0 [] 10) 20 (nk := [(.atom 0, .flt .f32), (.atom 1, .flt .f32), (.atom 2, .flt .f32), (.atom 3, .flt .f32), (.atom 4, .bool), (.atom 5, .bool), (.atom 6, .flt .f64), (.atom 7, .flt .f32), (.atom 8, .f64n), (.atom 9, .flt .f64), (.atom 10, .bool), (.atom 11, .int .i32), (.atom 12, .flt .f64), (.atom 13, .flt .f32), (.atom 14, .f64n), (.atom 15, .flt .f64), (.atom 16, .bool), (.atom 17, .int .i32), (.atom 18, .flt .f64), (.atom 19, .flt .f32), (.atom 20, .f64n), (.atom 21, .flt .f64)]) (fs := []) (xs := [.flt .f32 s, .flt .f32 a, .flt .f32 b, .flt .f32 c, .bool (sideX s), .bool (finX a b c), .flt .f64 w18, .flt .f32 w32, .flt .f64 w34, .flt .f64 (fAbs (quoC a s)), .bool w63, .int .i32 (intQ (quoC a s)), .flt .f64 w75, .flt .f32 w98, .flt .f64 w100, .flt .f64 (fAbs (quoC b s)), .bool w132, .int .i32 (intQ (quoC b s)), .flt .f64 w144, .flt .f32 w167, .flt .f64 w169, .flt .f64 (fAbs (quoC c s))]) (ws := [⟨p9, 0, [.lit (.int .i32 0), .lit (.int .i32 0), .lit (.int .i32 0)], true⟩, ⟨p13, 0, [.nd 11 (.int .i32), .nd 17 (.int .i32), .lit (.int .i32 0)], true⟩]) (env := [(30, .nd 18 (.flt .f64)), (32, .nd 16 .bool), (4, .ptr 0 0), (7, .lit (.int .i64 2)), (9, .nd 18 (.flt .f64)), (35, .nd 12 (.flt .f64)), (6, .ptr 1 0), (34, .lit (.int .i64 1)), (37, .ptr 1 1), (36, .nd 17 (.int .i32)), (21, .lit (.int .i64 2)), (38, .lit (.int .i64 2)), (22, .lit (.bool true)), (20, .agg [.nd 1 (.flt .f32), .nd 2 (.flt .f32), .nd 3 (.flt .f32)]), (23, .lit (.int .i64 2)), (24, .nd 3 (.flt .f32)), (8, .nd 3 (.flt .f32)), (0, .nd 0 (.flt .f32)), (25, .nd 3 (.flt .f32)), (26, .nd 0 (.flt .f32)), (27, .nd 19 (.flt .f32)), (28, .nd 20 .f64n), (29, .nd 18 (.flt .f64)), (31, .nd 21 (.flt .f64))]) ?_ ?_ tb_ok apC_ok ?_
    ·
     refine midN_in ?_ .nil _ ?_ ?_ ?_
     ·
      exact (.cons rfl ⟨_, rfl, hs⟩ (.cons rfl ⟨_, rfl, ha⟩ (.cons rfl ⟨_, rfl, hb⟩ (.cons rfl ⟨_, rfl, hc⟩ (.cons rfl ⟨_, rfl⟩ (.cons rfl ⟨_, rfl⟩ (.cons rfl k20 (.cons rfl ⟨_, rfl, hw32 ▸ fop_ok⟩ (.cons rfl k36 (.cons rfl ⟨_, rfl, fAbs_ok (quoC_ok _ _)⟩ (.cons rfl ⟨_, rfl⟩ (.cons rfl ⟨_, rfl⟩ (.cons rfl k77 (.cons rfl ⟨_, rfl, hw98 ▸ fop_ok⟩ (.cons rfl k102 (.cons rfl ⟨_, rfl, fAbs_ok (quoC_ok _ _)⟩ (.cons rfl ⟨_, rfl⟩ (.cons rfl ⟨_, rfl⟩ (.cons rfl k146 (.cons rfl ⟨_, rfl, hw167 ▸ fop_ok⟩ (.cons rfl k171 (.cons rfl ⟨_, rfl, fAbs_ok (quoC_ok _ _)⟩ .nil))))))))))))))))))))))
     ·
      exact (.cons (win_own r142 (dlCons (dLit rfl) (dlCons (dLit rfl) (dlCons (dLit rfl) dlNil)))) (.cons (win_own r143 (dlCons (dNd rfl ⟨_, rfl⟩) (dlCons (dNd rfl ⟨_, rfl⟩) (dlCons (dLit rfl) dlNil)))) .nil))
     ·
      exact ⟨(fun v hv h => (by simp at hv; rcases hv with rfl <;> first | (simp at h; done) | exact Apart.ne (by assumption) | exact (Apart.ne (by assumption)).symm)), ⟨(fun v hv => (by cases hv)), trivial⟩⟩
     ·
      exact .nil
    ·
     exact (envEq (put_ne rfl b145) (dNd rfl k146) (envEq (put_ne rfl b148) (dNd rfl ⟨_, rfl⟩) (envEq (put_ne rfl b149) (dPtr (l := p9) (o := 0) rfl) (envEq (put_ne rfl b150) (dLit rfl) (envEq (put_ne rfl b151) (dNd rfl k146) (envEq (put_ne rfl b152) (dNd rfl k77) (envEq (put_ne rfl b153) (dPtr (l := p13) (o := 0) rfl) (envEq (put_ne rfl b154) (dLit rfl) (envEq (put_ne rfl b155) (dPtr (l := p13) (o := 0) rfl) (envEq (put_ne rfl b156) (dNd rfl ⟨_, rfl⟩) (envEq (put_ne rfl b157) (dLit rfl) (envEq (put_ne rfl b158) (dLit rfl) (envEq (put_ne rfl b159) (dLit rfl) (envEq (put_ne rfl b160) (dAgg (dlCons (dNd rfl ⟨_, rfl, ha⟩) (dlCons (dNd rfl ⟨_, rfl, hb⟩) (dlCons (dNd rfl ⟨_, rfl, hc⟩) dlNil)))) (envEq (put_ne rfl b161) (dLit rfl) (envEq (put_ne rfl b162) (dNd rfl ⟨_, rfl, hc⟩) (envEq (put_ne rfl b163) (dNd rfl ⟨_, rfl, hc⟩) (envEq (put_ne rfl b164) (dNd rfl ⟨_, rfl, hs⟩) (envEq (put_ne rfl b165) (dNd rfl ⟨_, rfl, hc⟩) (envEq (put_ne rfl b166) (dNd rfl ⟨_, rfl, hs⟩) (envEq (put_ne rfl b168) (dNd rfl ⟨_, rfl, hw167 ▸ fop_ok⟩) (envEq (put_ne rfl b170) (dNd rfl k171) (envEq (put_ne rfl b172) (dNd rfl k146) (envEq put_same (dNd rfl ⟨_, rfl, fAbs_ok (quoC_ok _ _)⟩) envNil))))))))))))))))))))))))
    refine all2 (by kernel_rfl) ?_ ?_
    ·
     intro vs ls H175 E175 st hE
     have f176 : (ford .f64 (some 4696837146684686336) (fAbs (quoC c s)) == some .lt) = true := bf st 0
     refine res_ex (by kernel_rfl) (end_flat st.inn hE (.inr rfl) (a := .tuple [.agg [.int .i32 0, .int .i32 0, .int .i32 0], .int .i64 3]) (by kernel_rfl) (grew_own g174 (st.inn.kept) ⟨op9, ⟨op13, trivial⟩⟩) rfl ⟨?_, rfl⟩)
     have hbig177 : bigC (quoC c s) = true := f176
     simp only [cellX, f7, f8, hbig71, hbig140, hbig177, if_true, Bool.false_eq_true, if_false]
    ·
     intro vs ls H178 E178 st hE
     have f179 : (ford .f64 (some 4696837146684686336) (fAbs (quoC c s)) == some .lt) = false := bf st 0
     have b180 := eo st hE 35 (.flt .f64 w144)
     have b181 := eo st hE 6 (.ptr p13 0)
     have b182 := eo st hE 34 (.int .i64 2)
     have b183 := eo st hE 37 (.ptr p13 1)
     have b185 := eo st hE 21 (.int .i64 2)
     have b186 := eo st hE 38 (.int .i64 2)
     have b187 := eo st hE 22 (.bool true)
     have b188 := eo st hE 20 (.agg [.flt .f32 a, .flt .f32 b, .flt .f32 c])
     have b189 := eo st hE 23 (.int .i64 2)
     have b190 := eo st hE 24 (.flt .f32 c)
     have b191 := eo st hE 8 (.flt .f32 c)
     have b192 := eo st hE 0 (.flt .f32 s)
     have b193 := eo st hE 25 (.flt .f32 c)
     have b194 := eo st hE 26 (.flt .f32 s)
     have b195 := eo st hE 27 (.flt .f32 w167)
     have b196 := eo st hE 28 (.flt .f64 w169)
     have b197 := eo st hE 29 (.flt .f64 w144)
     have b198 := eo st hE 9 (.flt .f64 w144)
     have b199 := eo st hE 30 (.flt .f64 w144)
     have b200 := eo st hE 31 (.flt .f64 (fAbs (quoC c s)))
     obtain ⟨w201, hw201⟩ : ∃ z, z = (ford .f64 (some 4696837146684686336) (fAbs (quoC c s)) == some .lt) := ⟨_, rfl⟩
     have b202 : E178 32 = .bool w201 := by rw [hw201]; exact eo st hE 32 _
     have b203 := eo st hE 4 (.ptr p9 0)
     have b204 := eo st hE 7 (.int .i64 2)
     have g205 : Grew H141 H178 := (gk st)
     have g206 : Grew H H178 := Grew.trans g174 g205
     have r207 := g205.at r142
     have r208 := g205.at r143
     clear st hE vs ls
     have hbig209 : bigC (quoC c s) = false := f179
     refine res_conv (d := some 36) (c := .fi .i32) (x := .tmp 35) (r := .int .i32 (intQ (quoC c s))) (by kernel_rfl) (cv_fi b180 (by rw [hw144]; exact intQ_of (quoC_ok _ _) (quoC_some hc hs (finX_all f7).2.2 (sideX_pos f8).1 (sideX_pos f8).2) hbig209)) ?_
     refine run_mn (φ := φC) (pm := pmC 0 [] 10) 20 (nk := [(.atom 0, .flt .f32), (.atom 1, .flt .f32), (.atom 2, .flt .f32), (.atom 3, .flt .f32), (.atom 4, .bool), (.atom 5, .bool), (.atom 6, .flt .f64), (.atom 7, .flt .f32), (.atom 8, .f64n), (.atom 9, .flt .f64), (.atom 10, .bool), (.atom 11, .int .i32), (.atom 12, .flt .f64), (.atom 13, .flt .f32), (.atom 14, .f64n), (.atom 15, .flt .f64), (.atom 16, .bool), (.atom 17, .int .i32), (.atom 18, .flt .f64), (.atom 19, .flt .f32), (.atom 20, .f64n), (.atom 21, .flt .f64), (.atom 22, .bool), (.atom 23, .int .i32)]) (fs := []) (xs := [.flt .f32 s, .flt .f32 a, .flt .f32 b, .flt .f32 c, .bool (sideX s), .bool (finX a b c), .flt .f64 w18, .flt .f32 w32, .flt .f64 w34, .flt .f64 (fAbs (quoC a s)), .bool w63, .int .i32 (intQ (quoC a s)), .flt .f64 w75, .flt .f32 w98, .flt .f64 w100, .flt .f64 (fAbs (quoC b s)), .bool w132, .int .i32 (intQ (quoC b s)), .flt .f64 w144, .flt .f32 w167, .flt .f64 w169, .flt .f64 (fAbs (quoC c s)), .bool w201, .int .i32 (intQ (quoC c s))]) (ws := [⟨p9, 0, [.lit (.int .i32 0), .lit (.int .i32 0), .lit (.int .i32 0)], true⟩, ⟨p13, 0, [.nd 11 (.int .i32), .nd 17 (.int .i32), .lit (.int .i32 0)], true⟩]) (env := [(35, .nd 18 (.flt .f64)), (6, .ptr 1 0), (34, .lit (.int .i64 2)), (37, .ptr 1 1), (21, .lit (.int .i64 2)), (38, .lit (.int .i64 2)), (22, .lit (.bool true)), (20, .agg [.nd 1 (.flt .f32), .nd 2 (.flt .f32), .nd 3 (.flt .f32)]), (23, .lit (.int .i64 2)), (24, .nd 3 (.flt .f32)), (8, .nd 3 (.flt .f32)), (0, .nd 0 (.flt .f32)), (25, .nd 3 (.flt .f32)), (26, .nd 0 (.flt .f32)), (27, .nd 19 (.flt .f32)), (28, .nd 20 .f64n), (29, .nd 18 (.flt .f64)), (9, .nd 18 (.flt .f64)), (30, .nd 18 (.flt .f64)), (31, .nd 21 (.flt .f64)), (32, .nd 22 .bool), (4, .ptr 0 0), (7, .lit (.int .i64 2)), (36, .nd 23 (.int .i32))]) ?_ ?_ tb_ok apC_ok ?_
     ·
      refine midN_in ?_ .nil _ ?_ ?_ ?_
      ·
       exact (.cons rfl ⟨_, rfl, hs⟩ (.cons rfl ⟨_, rfl, ha⟩ (.cons rfl ⟨_, rfl, hb⟩ (.cons rfl ⟨_, rfl, hc⟩ (.cons rfl ⟨_, rfl⟩ (.cons rfl ⟨_, rfl⟩ (.cons rfl k20 (.cons rfl ⟨_, rfl, hw32 ▸ fop_ok⟩ (.cons rfl k36 (.cons rfl ⟨_, rfl, fAbs_ok (quoC_ok _ _)⟩ (.cons rfl ⟨_, rfl⟩ (.cons rfl ⟨_, rfl⟩ (.cons rfl k77 (.cons rfl ⟨_, rfl, hw98 ▸ fop_ok⟩ (.cons rfl k102 (.cons rfl ⟨_, rfl, fAbs_ok (quoC_ok _ _)⟩ (.cons rfl ⟨_, rfl⟩ (.cons rfl ⟨_, rfl⟩ (.cons rfl k146 (.cons rfl ⟨_, rfl, hw167 ▸ fop_ok⟩ (.cons rfl k171 (.cons rfl ⟨_, rfl, fAbs_ok (quoC_ok _ _)⟩ (.cons rfl ⟨_, rfl⟩ (.cons rfl ⟨_, rfl⟩ .nil))))))))))))))))))))))))
      ·
       exact (.cons (win_own r207 (dlCons (dLit rfl) (dlCons (dLit rfl) (dlCons (dLit rfl) dlNil)))) (.cons (win_own r208 (dlCons (dNd rfl ⟨_, rfl⟩) (dlCons (dNd rfl ⟨_, rfl⟩) (dlCons (dLit rfl) dlNil)))) .nil))
      ·
       exact ⟨(fun v hv h => (by simp at hv; rcases hv with rfl <;> first | (simp at h; done) | exact Apart.ne (by assumption) | exact (Apart.ne (by assumption)).symm)), ⟨(fun v hv => (by cases hv)), trivial⟩⟩
      ·
       exact .nil
     ·
      exact (envEq (put_ne rfl b180) (dNd rfl k146) (envEq (put_ne rfl b181) (dPtr (l := p13) (o := 0) rfl) (envEq (put_ne rfl b182) (dLit rfl) (envEq (put_ne rfl b183) (dPtr (l := p13) (o := 0) rfl) (envEq (put_ne rfl b185) (dLit rfl) (envEq (put_ne rfl b186) (dLit rfl) (envEq (put_ne rfl b187) (dLit rfl) (envEq (put_ne rfl b188) (dAgg (dlCons (dNd rfl ⟨_, rfl, ha⟩) (dlCons (dNd rfl ⟨_, rfl, hb⟩) (dlCons (dNd rfl ⟨_, rfl, hc⟩) dlNil)))) (envEq (put_ne rfl b189) (dLit rfl) (envEq (put_ne rfl b190) (dNd rfl ⟨_, rfl, hc⟩) (envEq (put_ne rfl b191) (dNd rfl ⟨_, rfl, hc⟩) (envEq (put_ne rfl b192) (dNd rfl ⟨_, rfl, hs⟩) (envEq (put_ne rfl b193) (dNd rfl ⟨_, rfl, hc⟩) (envEq (put_ne rfl b194) (dNd rfl ⟨_, rfl, hs⟩) (envEq (put_ne rfl b195) (dNd rfl ⟨_, rfl, hw167 ▸ fop_ok⟩) (envEq (put_ne rfl b196) (dNd rfl k171) (envEq (put_ne rfl b197) (dNd rfl k146) (envEq (put_ne rfl b198) (dNd rfl k146) (envEq (put_ne rfl b199) (dNd rfl k146) (envEq (put_ne rfl b200) (dNd rfl ⟨_, rfl, fAbs_ok (quoC_ok _ _)⟩) (envEq (put_ne rfl b202) (dNd rfl ⟨_, rfl⟩) (envEq (put_ne rfl b203) (dPtr (l := p9) (o := 0) rfl) (envEq (put_ne rfl b204) (dLit rfl) (envEq put_same (dNd rfl ⟨_, rfl⟩) envNil))))))))))))))))))))))))
     refine all1 (by kernel_rfl) ?_
     intro vs ls H210 E210 st hE
     refine res_ex (by kernel_rfl) (end_flat st.inn hE (.inr rfl) (a := .tuple [.agg [.int .i32 (intQ (quoC a s)), .int .i32 (intQ (quoC b s)), .int .i32 (intQ (quoC c s))], .int .i64 0]) (by kernel_rfl) (grew_own g206 (st.inn.kept) ⟨op9, ⟨op13, trivial⟩⟩) rfl ⟨?_, rfl⟩)
     simp only [cellX, f7, f8, hbig71, hbig140, hbig209, if_true, Bool.false_eq_true, if_false]
theorem k_l05Cell (s a b c : Option Nat) (hs : fOk .f32 s) (ha : fOk .f32 a) (hb : fOk .f32 b) (hc : fOk .f32 c) (H : AHeap) : APure Try.prog 60 [.flt .f32 s, .agg [.flt .f32 a, .flt .f32 b, .flt .f32 c]] H (.tuple [.agg (cellX s a b c).1, .int .i64 (cellX s a b c).2]) := by
 refine res_start h_spec_l05Cell (by simp) ?_
 refine run_mn (φ := φC) (pm := pmC 0 [(.call 65 [.nd 0 (.flt .f32)], .nd 4 .bool), (.call 83 [.agg [.nd 1 (.flt .f32), .nd 2 (.flt .f32), .nd 3 (.flt .f32)]], .nd 5 .bool)] 10) 20 (nk := [(.atom 0, .flt .f32), (.atom 1, .flt .f32), (.atom 2, .flt .f32), (.atom 3, .flt .f32), (.atom 4, .bool), (.atom 5, .bool)]) (fs := []) (xs := [.flt .f32 s, .flt .f32 a, .flt .f32 b, .flt .f32 c, .bool (sideX s), .bool (finX a b c)]) (ws := []) (env := [(0, .nd 0 (.flt .f32)), (1, .agg [.nd 1 (.flt .f32), .nd 2 (.flt .f32), .nd 3 (.flt .f32)])]) ?_ ?_ tb_ok apC_ok ?_
 ·
  refine midN_in ?_ .nil _ ?_ ?_ ?_
  ·
   exact (.cons rfl ⟨_, rfl, hs⟩ (.cons rfl ⟨_, rfl, ha⟩ (.cons rfl ⟨_, rfl, hb⟩ (.cons rfl ⟨_, rfl, hc⟩ (.cons rfl ⟨_, rfl⟩ (.cons rfl ⟨_, rfl⟩ .nil))))))
  ·
   exact .nil
  ·
   exact sepOk_ro rfl
  ·
   exact (.cons (rule_call (args := [.flt .f32 s]) (dlCons (dNd rfl ⟨_, rfl, hs⟩) dlNil) (dNd rfl ⟨_, rfl⟩) (fun H9 hk => k_l05SideX s hs H9)) (.cons (rule_call (args := [.agg [.flt .f32 a, .flt .f32 b, .flt .f32 c]]) (dlCons (dAgg (dlCons (dNd rfl ⟨_, rfl, ha⟩) (dlCons (dNd rfl ⟨_, rfl, hb⟩) (dlCons (dNd rfl ⟨_, rfl, hc⟩) dlNil)))) dlNil) (dNd rfl ⟨_, rfl⟩) (fun H9 hk => k_l01VecX a b c ha hb hc H9)) .nil))
 ·
  exact (envEq rfl (dNd rfl ⟨_, rfl, hs⟩) (envEq rfl (dAgg (dlCons (dNd rfl ⟨_, rfl, ha⟩) (dlCons (dNd rfl ⟨_, rfl, hb⟩) (dlCons (dNd rfl ⟨_, rfl, hc⟩) dlNil)))) envNil))
 refine all5 (by kernel_rfl) ?_ ?_ ?_ ?_ ?_
 ·
  intro vs ls H1 E1 st hE
  have f2 : (sideX s) = false := bf st 0
  refine res_ex (by kernel_rfl) (end_flat st.inn hE (.inr rfl) (a := .tuple [.agg [.int .i32 0, .int .i32 0, .int .i32 0], .int .i64 2]) (by kernel_rfl) (Grew.trans (Grew.refl _) (gk st)) rfl ⟨?_, rfl⟩)
  simp only [cellX, f2, if_true, Bool.false_eq_true, if_false]
 ·
  intro vs ls H3 E3 st hE
  have f4 : (finX a b c) = false := bf st 0
  have f5 : (sideX s) = true := bf st 1
  refine res_ex (by kernel_rfl) (end_flat st.inn hE (.inr rfl) (a := .tuple [.agg [.int .i32 0, .int .i32 0, .int .i32 0], .int .i64 2]) (by kernel_rfl) (Grew.trans (Grew.refl _) (gk st)) rfl ⟨?_, rfl⟩)
  simp only [cellX, f4, f5, if_true, Bool.false_eq_true, if_false]
 ·
  intro vs ls H6 E6 st hE
  have f7 : (ford .f64 (fInt .down (wid (fop .quo .f32 a s))) (some 4696837146684686336) == some .lt || ford .f64 (fInt .down (wid (fop .quo .f32 a s))) (some 4696837146684686336) == some .eq) = false := bf st 0
  have f8 : (ford .f64 (some 13920209183539462144) (fInt .down (wid (fop .quo .f32 a s))) == some .lt || ford .f64 (some 13920209183539462144) (fInt .down (wid (fop .quo .f32 a s))) == some .eq) = true := bf st 1
  have f9 : (finX a b c) = true := bf st 2
  have f10 : (sideX s) = true := bf st 3
  refine res_ex (by kernel_rfl) (end_flat st.inn hE (.inr rfl) (a := .tuple [.agg [.int .i32 0, .int .i32 0, .int .i32 0], .int .i64 3]) (by kernel_rfl) (Grew.trans (Grew.refl _) (gk st)) rfl ⟨?_, rfl⟩)
  have hbig11 : bigC (quoC a s) = true := by rw [big_eq (quoC_ok _ _) (quoC_some ha hs (finX_all f9).1 (sideX_pos f10).1 (sideX_pos f10).2)]; unfold quoC nmil mil; simp only [f7, f8]; rfl
  simp only [cellX, f9, f10, hbig11, if_true, Bool.false_eq_true, if_false]
 ·
  intro vs ls H12 E12 st hE
  have f13 : (ford .f64 (fInt .down (wid (fop .quo .f32 a s))) (some 4696837146684686336) == some .lt || ford .f64 (fInt .down (wid (fop .quo .f32 a s))) (some 4696837146684686336) == some .eq) = true := bf st 0
  have f14 : (ford .f64 (some 13920209183539462144) (fInt .down (wid (fop .quo .f32 a s))) == some .lt || ford .f64 (some 13920209183539462144) (fInt .down (wid (fop .quo .f32 a s))) == some .eq) = true := bf st 1
  have f15 : (finX a b c) = true := bf st 2
  have f16 : (sideX s) = true := bf st 3
  obtain ⟨p17, e18, r19, n20⟩ := ptr_of st.inn hE 6 2 (by kernel_rfl) (ds := [.int .i32 0, .int .i32 0, .int .i32 0]) (by kernel_rfl)
  have op17 : H.next ≤ p17 := Nat.le_trans (Nat.le_refl _) (n20 (Nat.le_of_ble_eq_true rfl))
  obtain ⟨p21, e22, r23, n24⟩ := ptr_of st.inn hE 3 0 (by kernel_rfl) (ds := [.flt .f32 a, .flt .f32 b, .flt .f32 c]) (by kernel_rfl)
  have op21 : H.next ≤ p21 := Nat.le_trans (Nat.le_refl _) (n24 (Nat.le_of_ble_eq_true rfl))
  obtain ⟨p25, e26, r27, n28⟩ := ptr_of st.inn hE 4 1 (by kernel_rfl) (ds := [.int .i32 0, .int .i32 0, .int .i32 0]) (by kernel_rfl)
  have op25 : H.next ≤ p25 := Nat.le_trans (Nat.le_refl _) (n28 (Nat.le_of_ble_eq_true rfl))
  have ne29 : Apart p17 p21 := ⟨ptr_ne st.inn hE 6 2 3 0 (by kernel_rfl) (by kernel_rfl) (cs := [.lit (.int .i32 0), .lit (.int .i32 0), .lit (.int .i32 0)]) (by kernel_rfl) (by decide) e18 e22⟩
  have ne30 : Apart p17 p25 := ⟨ptr_ne st.inn hE 6 2 4 1 (by kernel_rfl) (by kernel_rfl) (cs := [.lit (.int .i32 0), .lit (.int .i32 0), .lit (.int .i32 0)]) (by kernel_rfl) (by decide) e18 e26⟩
  have ne31 : Apart p21 p25 := ⟨ptr_ne st.inn hE 3 0 4 1 (by kernel_rfl) (by kernel_rfl) (cs := [.nd 1 (.flt .f32), .nd 2 (.flt .f32), .nd 3 (.flt .f32)]) (by kernel_rfl) (by decide) e22 e26⟩
  obtain ⟨w32, hw32⟩ : ∃ z, z = (fInt .down (wid (fop .quo .f32 a s))) := ⟨_, rfl⟩
  have b33 : E12 39 = .flt .f64 w32 := by rw [hw32]; exact eo st hE 39 _
  have k34 : HasKd (.flt .f64) (.flt .f64 w32) := b33 ▸ kd_env st.inn hE 39 (kd := .flt .f64) (by kernel_rfl)
  have b35 := eo st hE 38 (.int .i64 0)
  have b36 := eo st hE 7 (.int .i64 0)
  have b37 := eo st hE 19 (.int .i64 0)
  have b38 := eo st hE 20 (.bool true)
  have b39 := eo st hE 23 (.int .i64 0)
  have b40 : E12 24 = .ptr p21 0 := ptr_off st.inn hE 24 0 0 (by kernel_rfl) 3 (by kernel_rfl) e22
  have b41 := eo st hE 0 (.flt .f32 s)
  have b42 := eo st hE 25 (.flt .f32 a)
  have b43 := eo st hE 26 (.flt .f32 s)
  obtain ⟨w44, hw44⟩ : ∃ z, z = (fop .quo .f32 a s) := ⟨_, rfl⟩
  have b45 : E12 27 = .flt .f32 w44 := by rw [hw44]; exact eo st hE 27 _
  obtain ⟨w46, hw46⟩ : ∃ z, z = (wid (fop .quo .f32 a s)) := ⟨_, rfl⟩
  have b47 : E12 28 = .flt .f64 w46 := by rw [hw46]; exact eo st hE 28 _
  have k48 : HasKd (.f64n) (.flt .f64 w46) := b47 ▸ kd_env st.inn hE 28 (kd := .f64n) (by kernel_rfl)
  have b49 : E12 29 = .flt .f64 w32 := by rw [hw32]; exact eo st hE 29 _
  have b50 : E12 8 = .flt .f64 w32 := by rw [hw32]; exact eo st hE 8 _
  have b51 : E12 30 = .flt .f64 w32 := by rw [hw32]; exact eo st hE 30 _
  obtain ⟨w52, hw52⟩ : ∃ z, z = (ford .f64 (some 13920209183539462144) (fInt .down (wid (fop .quo .f32 a s))) == some .lt || ford .f64 (some 13920209183539462144) (fInt .down (wid (fop .quo .f32 a s))) == some .eq) := ⟨_, rfl⟩
  have b53 : E12 31 = .bool w52 := by rw [hw52]; exact eo st hE 31 _
  have b54 : E12 33 = .flt .f64 w32 := by rw [hw32]; exact eo st hE 33 _
  have b55 : E12 32 = .bool w52 := by rw [hw52]; exact eo st hE 32 _
  obtain ⟨w56, hw56⟩ : ∃ z, z = (ford .f64 (fInt .down (wid (fop .quo .f32 a s))) (some 4696837146684686336) == some .lt || ford .f64 (fInt .down (wid (fop .quo .f32 a s))) (some 4696837146684686336) == some .eq) := ⟨_, rfl⟩
  have b57 : E12 34 = .bool w56 := by rw [hw56]; exact eo st hE 34 _
  have b58 : E12 35 = .bool w56 := by rw [hw56]; exact eo st hE 35 _
  obtain ⟨w59, hw59⟩ : ∃ z, z = (!(ford .f64 (fInt .down (wid (fop .quo .f32 a s))) (some 4696837146684686336) == some .lt || ford .f64 (fInt .down (wid (fop .quo .f32 a s))) (some 4696837146684686336) == some .eq)) := ⟨_, rfl⟩
  have b60 : E12 36 = .bool w59 := by rw [hw59]; exact eo st hE 36 _
  have g61 : Grew H H12 := (gk st)
  have g62 : Grew H H12 := Grew.trans (Grew.refl _) g61
  clear st hE vs ls
  have hbig63 : bigC (quoC a s) = false := by rw [big_eq (quoC_ok _ _) (quoC_some ha hs (finX_all f15).1 (sideX_pos f16).1 (sideX_pos f16).2)]; unfold quoC nmil mil; simp only [f13, f14]; rfl
  refine res_conv (d := some 40) (c := .fi .i32) (x := .tmp 39) (r := .int .i32 (intQ (quoC a s))) (by kernel_rfl) (cv_fi b33 (by rw [hw32]; exact intQ_of (quoC_ok _ _) (quoC_some ha hs (finX_all f15).1 (sideX_pos f16).1 (sideX_pos f16).2) hbig63)) ?_
  refine run_mn (φ := φC) (pm := pmC 1 [] 10) 20 (nk := [(.atom 0, .flt .f32), (.atom 1, .flt .f32), (.atom 2, .flt .f32), (.atom 3, .flt .f32), (.atom 4, .bool), (.atom 5, .bool), (.atom 6, .flt .f64), (.atom 7, .flt .f32), (.atom 8, .f64n), (.atom 9, .bool), (.atom 10, .bool), (.atom 11, .bool), (.atom 12, .int .i32)]) (fs := []) (xs := [.flt .f32 s, .flt .f32 a, .flt .f32 b, .flt .f32 c, .bool (sideX s), .bool (finX a b c), .flt .f64 w32, .flt .f32 w44, .flt .f64 w46, .bool w52, .bool w56, .bool w59, .int .i32 (intQ (quoC a s))]) (ws := [⟨p21, 0, [.nd 1 (.flt .f32), .nd 2 (.flt .f32), .nd 3 (.flt .f32)], false⟩, ⟨p17, 0, [.lit (.int .i32 0), .lit (.int .i32 0), .lit (.int .i32 0)], true⟩, ⟨p25, 0, [.lit (.int .i32 0), .lit (.int .i32 0), .lit (.int .i32 0)], true⟩]) (env := [(39, .nd 6 (.flt .f64)), (6, .ptr 1 0), (38, .lit (.int .i64 0)), (7, .lit (.int .i64 0)), (19, .lit (.int .i64 0)), (20, .lit (.bool true)), (3, .ptr 0 0), (23, .lit (.int .i64 0)), (24, .ptr 0 0), (0, .nd 0 (.flt .f32)), (25, .nd 1 (.flt .f32)), (26, .nd 0 (.flt .f32)), (27, .nd 7 (.flt .f32)), (28, .nd 8 .f64n), (29, .nd 6 (.flt .f64)), (8, .nd 6 (.flt .f64)), (30, .nd 6 (.flt .f64)), (31, .nd 9 .bool), (33, .nd 6 (.flt .f64)), (32, .nd 9 .bool), (34, .nd 10 .bool), (35, .nd 10 .bool), (36, .nd 11 .bool), (4, .ptr 2 0), (40, .nd 12 (.int .i32))]) ?_ ?_ tb_ok apC_ok ?_
  ·
   refine midN_in ?_ .nil _ ?_ ?_ ?_
   ·
    exact (.cons rfl ⟨_, rfl, hs⟩ (.cons rfl ⟨_, rfl, ha⟩ (.cons rfl ⟨_, rfl, hb⟩ (.cons rfl ⟨_, rfl, hc⟩ (.cons rfl ⟨_, rfl⟩ (.cons rfl ⟨_, rfl⟩ (.cons rfl k34 (.cons rfl ⟨_, rfl, hw44 ▸ fop_ok⟩ (.cons rfl k48 (.cons rfl ⟨_, rfl⟩ (.cons rfl ⟨_, rfl⟩ (.cons rfl ⟨_, rfl⟩ (.cons rfl ⟨_, rfl⟩ .nil)))))))))))))
   ·
    exact (.cons (win_row r23 (dlCons (dNd rfl ⟨_, rfl, ha⟩) (dlCons (dNd rfl ⟨_, rfl, hb⟩) (dlCons (dNd rfl ⟨_, rfl, hc⟩) dlNil)))) (.cons (win_own r19 (dlCons (dLit rfl) (dlCons (dLit rfl) (dlCons (dLit rfl) dlNil)))) (.cons (win_own r27 (dlCons (dLit rfl) (dlCons (dLit rfl) (dlCons (dLit rfl) dlNil)))) .nil)))
   ·
    exact ⟨(fun v hv h => (by simp at hv; rcases hv with rfl | rfl <;> first | (simp at h; done) | exact Apart.ne (by assumption) | exact (Apart.ne (by assumption)).symm)), ⟨(fun v hv h => (by simp at hv; rcases hv with rfl <;> first | (simp at h; done) | exact Apart.ne (by assumption) | exact (Apart.ne (by assumption)).symm)), ⟨(fun v hv => (by cases hv)), trivial⟩⟩⟩
   ·
    exact .nil
  ·
   exact (envEq (put_ne rfl b33) (dNd rfl k34) (envEq (put_ne rfl e18) (dPtr (l := p17) (o := 0) rfl) (envEq (put_ne rfl b35) (dLit rfl) (envEq (put_ne rfl b36) (dLit rfl) (envEq (put_ne rfl b37) (dLit rfl) (envEq (put_ne rfl b38) (dLit rfl) (envEq (put_ne rfl e22) (dPtr (l := p21) (o := 0) rfl) (envEq (put_ne rfl b39) (dLit rfl) (envEq (put_ne rfl b40) (dPtr (l := p21) (o := 0) rfl) (envEq (put_ne rfl b41) (dNd rfl ⟨_, rfl, hs⟩) (envEq (put_ne rfl b42) (dNd rfl ⟨_, rfl, ha⟩) (envEq (put_ne rfl b43) (dNd rfl ⟨_, rfl, hs⟩) (envEq (put_ne rfl b45) (dNd rfl ⟨_, rfl, hw44 ▸ fop_ok⟩) (envEq (put_ne rfl b47) (dNd rfl k48) (envEq (put_ne rfl b49) (dNd rfl k34) (envEq (put_ne rfl b50) (dNd rfl k34) (envEq (put_ne rfl b51) (dNd rfl k34) (envEq (put_ne rfl b53) (dNd rfl ⟨_, rfl⟩) (envEq (put_ne rfl b54) (dNd rfl k34) (envEq (put_ne rfl b55) (dNd rfl ⟨_, rfl⟩) (envEq (put_ne rfl b57) (dNd rfl ⟨_, rfl⟩) (envEq (put_ne rfl b58) (dNd rfl ⟨_, rfl⟩) (envEq (put_ne rfl b60) (dNd rfl ⟨_, rfl⟩) (envEq (put_ne rfl e26) (dPtr (l := p25) (o := 0) rfl) (envEq put_same (dNd rfl ⟨_, rfl⟩) envNil)))))))))))))))))))))))))
  refine all3 (by kernel_rfl) ?_ ?_ ?_
  ·
   intro vs ls H64 E64 st hE
   have f65 : (ford .f64 (fInt .down (wid (fop .quo .f32 b s))) (some 4696837146684686336) == some .lt || ford .f64 (fInt .down (wid (fop .quo .f32 b s))) (some 4696837146684686336) == some .eq) = false := bf st 0
   have f66 : (ford .f64 (some 13920209183539462144) (fInt .down (wid (fop .quo .f32 b s))) == some .lt || ford .f64 (some 13920209183539462144) (fInt .down (wid (fop .quo .f32 b s))) == some .eq) = true := bf st 1
   refine res_ex (by kernel_rfl) (end_flat st.inn hE (.inr rfl) (a := .tuple [.agg [.int .i32 0, .int .i32 0, .int .i32 0], .int .i64 3]) (by kernel_rfl) (grew_own g62 (st.inn.kept) ⟨op17, ⟨op25, trivial⟩⟩) rfl ⟨?_, rfl⟩)
   have hbig67 : bigC (quoC b s) = true := by rw [big_eq (quoC_ok _ _) (quoC_some hb hs (finX_all f15).2.1 (sideX_pos f16).1 (sideX_pos f16).2)]; unfold quoC nmil mil; simp only [f65, f66]; rfl
   simp only [cellX, f15, f16, hbig63, hbig67, if_true, Bool.false_eq_true, if_false]
  ·
   intro vs ls H68 E68 st hE
   have f69 : (ford .f64 (fInt .down (wid (fop .quo .f32 b s))) (some 4696837146684686336) == some .lt || ford .f64 (fInt .down (wid (fop .quo .f32 b s))) (some 4696837146684686336) == some .eq) = true := bf st 0
   have f70 : (ford .f64 (some 13920209183539462144) (fInt .down (wid (fop .quo .f32 b s))) == some .lt || ford .f64 (some 13920209183539462144) (fInt .down (wid (fop .quo .f32 b s))) == some .eq) = true := bf st 1
   have r71 : H68.get p17 = some (.row [.int .i32 (intQ (quoC a s)), .int .i32 0, .int .i32 0] true) := row_whole st.inn 1 (l := p17) (b := 0) rfl (by kernel_rfl)
   have r72 : H68.get p25 = some (.row [.int .i32 0, .int .i32 0, .int .i32 0] true) := row_whole st.inn 2 (l := p25) (b := 0) rfl (by kernel_rfl)
   obtain ⟨w73, hw73⟩ : ∃ z, z = (fInt .down (wid (fop .quo .f32 b s))) := ⟨_, rfl⟩
   have b74 : E68 39 = .flt .f64 w73 := by rw [hw73]; exact eo st hE 39 _
   have k75 : HasKd (.flt .f64) (.flt .f64 w73) := b74 ▸ kd_env st.inn hE 39 (kd := .flt .f64) (by kernel_rfl)
   have b76 := eo st hE 6 (.ptr p17 0)
   have b77 := eo st hE 38 (.int .i64 1)
   have b78 := eo st hE 41 (.ptr p17 0)
   have b80 := eo st hE 7 (.int .i64 1)
   have b81 := eo st hE 21 (.int .i64 0)
   have b82 := eo st hE 22 (.int .i64 1)
   have b83 := eo st hE 19 (.int .i64 1)
   have b84 := eo st hE 20 (.bool true)
   have b85 := eo st hE 3 (.ptr p21 0)
   have b86 := eo st hE 23 (.int .i64 1)
   have b87 := eo st hE 24 (.ptr p21 1)
   have b88 := eo st hE 0 (.flt .f32 s)
   have b89 := eo st hE 25 (.flt .f32 b)
   have b90 := eo st hE 26 (.flt .f32 s)
   obtain ⟨w91, hw91⟩ : ∃ z, z = (fop .quo .f32 b s) := ⟨_, rfl⟩
   have b92 : E68 27 = .flt .f32 w91 := by rw [hw91]; exact eo st hE 27 _
   obtain ⟨w93, hw93⟩ : ∃ z, z = (wid (fop .quo .f32 b s)) := ⟨_, rfl⟩
   have b94 : E68 28 = .flt .f64 w93 := by rw [hw93]; exact eo st hE 28 _
   have k95 : HasKd (.f64n) (.flt .f64 w93) := b94 ▸ kd_env st.inn hE 28 (kd := .f64n) (by kernel_rfl)
   have b96 : E68 29 = .flt .f64 w73 := by rw [hw73]; exact eo st hE 29 _
   have b97 : E68 8 = .flt .f64 w73 := by rw [hw73]; exact eo st hE 8 _
   have b98 : E68 30 = .flt .f64 w73 := by rw [hw73]; exact eo st hE 30 _
   obtain ⟨w99, hw99⟩ : ∃ z, z = (ford .f64 (some 13920209183539462144) (fInt .down (wid (fop .quo .f32 b s))) == some .lt || ford .f64 (some 13920209183539462144) (fInt .down (wid (fop .quo .f32 b s))) == some .eq) := ⟨_, rfl⟩
   have b100 : E68 31 = .bool w99 := by rw [hw99]; exact eo st hE 31 _
   have b101 : E68 33 = .flt .f64 w73 := by rw [hw73]; exact eo st hE 33 _
   have b102 : E68 32 = .bool w99 := by rw [hw99]; exact eo st hE 32 _
   obtain ⟨w103, hw103⟩ : ∃ z, z = (ford .f64 (fInt .down (wid (fop .quo .f32 b s))) (some 4696837146684686336) == some .lt || ford .f64 (fInt .down (wid (fop .quo .f32 b s))) (some 4696837146684686336) == some .eq) := ⟨_, rfl⟩
   have b104 : E68 34 = .bool w103 := by rw [hw103]; exact eo st hE 34 _
   have b105 : E68 35 = .bool w103 := by rw [hw103]; exact eo st hE 35 _
   obtain ⟨w106, hw106⟩ : ∃ z, z = (!(ford .f64 (fInt .down (wid (fop .quo .f32 b s))) (some 4696837146684686336) == some .lt || ford .f64 (fInt .down (wid (fop .quo .f32 b s))) (some 4696837146684686336) == some .eq)) := ⟨_, rfl⟩
   have b107 : E68 36 = .bool w106 := by rw [hw106]; exact eo st hE 36 _
   have b108 := eo st hE 4 (.ptr p25 0)
   have g110 : Grew H H68 := grew_own g62 st.inn.kept ⟨op17, ⟨op25, trivial⟩⟩
   have r111 := kept_at st.inn.kept r23 ⟨by first | assumption | exact Apart.symm (by assumption), ⟨by first | assumption | exact Apart.symm (by assumption), trivial⟩⟩
   clear st hE vs ls
   have hbig112 : bigC (quoC b s) = false := by rw [big_eq (quoC_ok _ _) (quoC_some hb hs (finX_all f15).2.1 (sideX_pos f16).1 (sideX_pos f16).2)]; unfold quoC nmil mil; simp only [f69, f70]; rfl
   refine res_conv (d := some 40) (c := .fi .i32) (x := .tmp 39) (r := .int .i32 (intQ (quoC b s))) (by kernel_rfl) (cv_fi b74 (by rw [hw73]; exact intQ_of (quoC_ok _ _) (quoC_some hb hs (finX_all f15).2.1 (sideX_pos f16).1 (sideX_pos f16).2) hbig112)) ?_
   refine run_mn (φ := φC) (pm := pmC 1 [] 10) 20 (nk := [(.atom 0, .flt .f32), (.atom 1, .flt .f32), (.atom 2, .flt .f32), (.atom 3, .flt .f32), (.atom 4, .bool), (.atom 5, .bool), (.atom 6, .flt .f64), (.atom 7, .flt .f32), (.atom 8, .f64n), (.atom 9, .bool), (.atom 10, .bool), (.atom 11, .bool), (.atom 12, .int .i32), (.atom 13, .flt .f64), (.atom 14, .flt .f32), (.atom 15, .f64n), (.atom 16, .bool), (.atom 17, .bool), (.atom 18, .bool), (.atom 19, .int .i32)]) (fs := []) (xs := [.flt .f32 s, .flt .f32 a, .flt .f32 b, .flt .f32 c, .bool (sideX s), .bool (finX a b c), .flt .f64 w32, .flt .f32 w44, .flt .f64 w46, .bool w52, .bool w56, .bool w59, .int .i32 (intQ (quoC a s)), .flt .f64 w73, .flt .f32 w91, .flt .f64 w93, .bool w99, .bool w103, .bool w106, .int .i32 (intQ (quoC b s))]) (ws := [⟨p21, 0, [.nd 1 (.flt .f32), .nd 2 (.flt .f32), .nd 3 (.flt .f32)], false⟩, ⟨p17, 0, [.nd 12 (.int .i32), .lit (.int .i32 0), .lit (.int .i32 0)], true⟩, ⟨p25, 0, [.lit (.int .i32 0), .lit (.int .i32 0), .lit (.int .i32 0)], true⟩]) (env := [(39, .nd 13 (.flt .f64)), (6, .ptr 1 0), (38, .lit (.int .i64 1)), (41, .ptr 1 0), (7, .lit (.int .i64 1)), (21, .lit (.int .i64 0)), (22, .lit (.int .i64 1)), (19, .lit (.int .i64 1)), (20, .lit (.bool true)), (3, .ptr 0 0), (23, .lit (.int .i64 1)), (24, .ptr 0 1), (0, .nd 0 (.flt .f32)), (25, .nd 2 (.flt .f32)), (26, .nd 0 (.flt .f32)), (27, .nd 14 (.flt .f32)), (28, .nd 15 .f64n), (29, .nd 13 (.flt .f64)), (8, .nd 13 (.flt .f64)), (30, .nd 13 (.flt .f64)), (31, .nd 16 .bool), (33, .nd 13 (.flt .f64)), (32, .nd 16 .bool), (34, .nd 17 .bool), (35, .nd 17 .bool), (36, .nd 18 .bool), (4, .ptr 2 0), (40, .nd 19 (.int .i32))]) ?_ ?_ tb_ok apC_ok ?_
   ·
    refine midN_in ?_ .nil _ ?_ ?_ ?_
    ·
     exact (.cons rfl ⟨_, rfl, hs⟩ (.cons rfl ⟨_, rfl, ha⟩ (.cons rfl ⟨_, rfl, hb⟩ (.cons rfl ⟨_, rfl, hc⟩ (.cons rfl ⟨_, rfl⟩ (.cons rfl ⟨_, rfl⟩ (.cons rfl k34 (.cons rfl ⟨_, rfl, hw44 ▸ fop_ok⟩ (.cons rfl k48 (.cons rfl ⟨_, rfl⟩ (.cons rfl ⟨_, rfl⟩ (.cons rfl ⟨_, rfl⟩ (.cons rfl ⟨_, rfl⟩ (.cons rfl k75 (.cons rfl ⟨_, rfl, hw91 ▸ fop_ok⟩ (.cons rfl k95 (.cons rfl ⟨_, rfl⟩ (.cons rfl ⟨_, rfl⟩ (.cons rfl ⟨_, rfl⟩ (.cons rfl ⟨_, rfl⟩ .nil))))))))))))))))))))
    ·
     exact (.cons (win_row r111 (dlCons (dNd rfl ⟨_, rfl, ha⟩) (dlCons (dNd rfl ⟨_, rfl, hb⟩) (dlCons (dNd rfl ⟨_, rfl, hc⟩) dlNil)))) (.cons (win_own r71 (dlCons (dNd rfl ⟨_, rfl⟩) (dlCons (dLit rfl) (dlCons (dLit rfl) dlNil)))) (.cons (win_own r72 (dlCons (dLit rfl) (dlCons (dLit rfl) (dlCons (dLit rfl) dlNil)))) .nil)))
    ·
     exact ⟨(fun v hv h => (by simp at hv; rcases hv with rfl | rfl <;> first | (simp at h; done) | exact Apart.ne (by assumption) | exact (Apart.ne (by assumption)).symm)), ⟨(fun v hv h => (by simp at hv; rcases hv with rfl <;> first | (simp at h; done) | exact Apart.ne (by assumption) | exact (Apart.ne (by assumption)).symm)), ⟨(fun v hv => (by cases hv)), trivial⟩⟩⟩
    ·
     exact .nil
   ·
    exact (envEq (put_ne rfl b74) (dNd rfl k75) (envEq (put_ne rfl b76) (dPtr (l := p17) (o := 0) rfl) (envEq (put_ne rfl b77) (dLit rfl) (envEq (put_ne rfl b78) (dPtr (l := p17) (o := 0) rfl) (envEq (put_ne rfl b80) (dLit rfl) (envEq (put_ne rfl b81) (dLit rfl) (envEq (put_ne rfl b82) (dLit rfl) (envEq (put_ne rfl b83) (dLit rfl) (envEq (put_ne rfl b84) (dLit rfl) (envEq (put_ne rfl b85) (dPtr (l := p21) (o := 0) rfl) (envEq (put_ne rfl b86) (dLit rfl) (envEq (put_ne rfl b87) (dPtr (l := p21) (o := 0) rfl) (envEq (put_ne rfl b88) (dNd rfl ⟨_, rfl, hs⟩) (envEq (put_ne rfl b89) (dNd rfl ⟨_, rfl, hb⟩) (envEq (put_ne rfl b90) (dNd rfl ⟨_, rfl, hs⟩) (envEq (put_ne rfl b92) (dNd rfl ⟨_, rfl, hw91 ▸ fop_ok⟩) (envEq (put_ne rfl b94) (dNd rfl k95) (envEq (put_ne rfl b96) (dNd rfl k75) (envEq (put_ne rfl b97) (dNd rfl k75) (envEq (put_ne rfl b98) (dNd rfl k75) (envEq (put_ne rfl b100) (dNd rfl ⟨_, rfl⟩) (envEq (put_ne rfl b101) (dNd rfl k75) (envEq (put_ne rfl b102) (dNd rfl ⟨_, rfl⟩) (envEq (put_ne rfl b104) (dNd rfl ⟨_, rfl⟩) (envEq (put_ne rfl b105) (dNd rfl ⟨_, rfl⟩) (envEq (put_ne rfl b107) (dNd rfl ⟨_, rfl⟩) (envEq (put_ne rfl b108) (dPtr (l := p25) (o := 0) rfl) (envEq put_same (dNd rfl ⟨_, rfl⟩) envNil))))))))))))))))))))))))))))
   refine all3 (by kernel_rfl) ?_ ?_ ?_
   ·
    intro vs ls H113 E113 st hE
    have f114 : (ford .f64 (fInt .down (wid (fop .quo .f32 c s))) (some 4696837146684686336) == some .lt || ford .f64 (fInt .down (wid (fop .quo .f32 c s))) (some 4696837146684686336) == some .eq) = false := bf st 0
    have f115 : (ford .f64 (some 13920209183539462144) (fInt .down (wid (fop .quo .f32 c s))) == some .lt || ford .f64 (some 13920209183539462144) (fInt .down (wid (fop .quo .f32 c s))) == some .eq) = true := bf st 1
    refine res_ex (by kernel_rfl) (end_flat st.inn hE (.inr rfl) (a := .tuple [.agg [.int .i32 0, .int .i32 0, .int .i32 0], .int .i64 3]) (by kernel_rfl) (grew_own g110 (st.inn.kept) ⟨op17, ⟨op25, trivial⟩⟩) rfl ⟨?_, rfl⟩)
    have hbig116 : bigC (quoC c s) = true := by rw [big_eq (quoC_ok _ _) (quoC_some hc hs (finX_all f15).2.2 (sideX_pos f16).1 (sideX_pos f16).2)]; unfold quoC nmil mil; simp only [f114, f115]; rfl
    simp only [cellX, f15, f16, hbig63, hbig112, hbig116, if_true, Bool.false_eq_true, if_false]
   ·
    intro vs ls H117 E117 st hE
    have f118 : (ford .f64 (fInt .down (wid (fop .quo .f32 c s))) (some 4696837146684686336) == some .lt || ford .f64 (fInt .down (wid (fop .quo .f32 c s))) (some 4696837146684686336) == some .eq) = true := bf st 0
    have f119 : (ford .f64 (some 13920209183539462144) (fInt .down (wid (fop .quo .f32 c s))) == some .lt || ford .f64 (some 13920209183539462144) (fInt .down (wid (fop .quo .f32 c s))) == some .eq) = true := bf st 1
    have r120 : H117.get p17 = some (.row [.int .i32 (intQ (quoC a s)), .int .i32 (intQ (quoC b s)), .int .i32 0] true) := row_whole st.inn 1 (l := p17) (b := 0) rfl (by kernel_rfl)
    have r121 : H117.get p25 = some (.row [.int .i32 0, .int .i32 0, .int .i32 0] true) := row_whole st.inn 2 (l := p25) (b := 0) rfl (by kernel_rfl)
    obtain ⟨w122, hw122⟩ : ∃ z, z = (fInt .down (wid (fop .quo .f32 c s))) := ⟨_, rfl⟩
    have b123 : E117 39 = .flt .f64 w122 := by rw [hw122]; exact eo st hE 39 _
    have k124 : HasKd (.flt .f64) (.flt .f64 w122) := b123 ▸ kd_env st.inn hE 39 (kd := .flt .f64) (by kernel_rfl)
    have b125 := eo st hE 6 (.ptr p17 0)
    have b126 := eo st hE 38 (.int .i64 2)
    have b127 := eo st hE 41 (.ptr p17 1)
    have b129 := eo st hE 7 (.int .i64 2)
    have b130 := eo st hE 21 (.int .i64 1)
    have b131 := eo st hE 22 (.int .i64 2)
    have b132 := eo st hE 19 (.int .i64 2)
    have b133 := eo st hE 20 (.bool true)
    have b134 := eo st hE 3 (.ptr p21 0)
    have b135 := eo st hE 23 (.int .i64 2)
    have b136 := eo st hE 24 (.ptr p21 2)
    have b137 := eo st hE 0 (.flt .f32 s)
    have b138 := eo st hE 25 (.flt .f32 c)
    have b139 := eo st hE 26 (.flt .f32 s)
    obtain ⟨w140, hw140⟩ : ∃ z, z = (fop .quo .f32 c s) := ⟨_, rfl⟩
    have b141 : E117 27 = .flt .f32 w140 := by rw [hw140]; exact eo st hE 27 _
    obtain ⟨w142, hw142⟩ : ∃ z, z = (wid (fop .quo .f32 c s)) := ⟨_, rfl⟩
    have b143 : E117 28 = .flt .f64 w142 := by rw [hw142]; exact eo st hE 28 _
    have k144 : HasKd (.f64n) (.flt .f64 w142) := b143 ▸ kd_env st.inn hE 28 (kd := .f64n) (by kernel_rfl)
    have b145 : E117 29 = .flt .f64 w122 := by rw [hw122]; exact eo st hE 29 _
    have b146 : E117 8 = .flt .f64 w122 := by rw [hw122]; exact eo st hE 8 _
    have b147 : E117 30 = .flt .f64 w122 := by rw [hw122]; exact eo st hE 30 _
    obtain ⟨w148, hw148⟩ : ∃ z, z = (ford .f64 (some 13920209183539462144) (fInt .down (wid (fop .quo .f32 c s))) == some .lt || ford .f64 (some 13920209183539462144) (fInt .down (wid (fop .quo .f32 c s))) == some .eq) := ⟨_, rfl⟩
    have b149 : E117 31 = .bool w148 := by rw [hw148]; exact eo st hE 31 _
    have b150 : E117 33 = .flt .f64 w122 := by rw [hw122]; exact eo st hE 33 _
    have b151 : E117 32 = .bool w148 := by rw [hw148]; exact eo st hE 32 _
    obtain ⟨w152, hw152⟩ : ∃ z, z = (ford .f64 (fInt .down (wid (fop .quo .f32 c s))) (some 4696837146684686336) == some .lt || ford .f64 (fInt .down (wid (fop .quo .f32 c s))) (some 4696837146684686336) == some .eq) := ⟨_, rfl⟩
    have b153 : E117 34 = .bool w152 := by rw [hw152]; exact eo st hE 34 _
    have b154 : E117 35 = .bool w152 := by rw [hw152]; exact eo st hE 35 _
    obtain ⟨w155, hw155⟩ : ∃ z, z = (!(ford .f64 (fInt .down (wid (fop .quo .f32 c s))) (some 4696837146684686336) == some .lt || ford .f64 (fInt .down (wid (fop .quo .f32 c s))) (some 4696837146684686336) == some .eq)) := ⟨_, rfl⟩
    have b156 : E117 36 = .bool w155 := by rw [hw155]; exact eo st hE 36 _
    have b157 := eo st hE 4 (.ptr p25 0)
    have g159 : Grew H H117 := grew_own g110 st.inn.kept ⟨op17, ⟨op25, trivial⟩⟩
    have r160 := kept_at st.inn.kept r111 ⟨by first | assumption | exact Apart.symm (by assumption), ⟨by first | assumption | exact Apart.symm (by assumption), trivial⟩⟩
    clear st hE vs ls
    have hbig161 : bigC (quoC c s) = false := by rw [big_eq (quoC_ok _ _) (quoC_some hc hs (finX_all f15).2.2 (sideX_pos f16).1 (sideX_pos f16).2)]; unfold quoC nmil mil; simp only [f118, f119]; rfl
    refine res_conv (d := some 40) (c := .fi .i32) (x := .tmp 39) (r := .int .i32 (intQ (quoC c s))) (by kernel_rfl) (cv_fi b123 (by rw [hw122]; exact intQ_of (quoC_ok _ _) (quoC_some hc hs (finX_all f15).2.2 (sideX_pos f16).1 (sideX_pos f16).2) hbig161)) ?_
    refine run_mn (φ := φC) (pm := pmC 1 [] 10) 20 (nk := [(.atom 0, .flt .f32), (.atom 1, .flt .f32), (.atom 2, .flt .f32), (.atom 3, .flt .f32), (.atom 4, .bool), (.atom 5, .bool), (.atom 6, .flt .f64), (.atom 7, .flt .f32), (.atom 8, .f64n), (.atom 9, .bool), (.atom 10, .bool), (.atom 11, .bool), (.atom 12, .int .i32), (.atom 13, .flt .f64), (.atom 14, .flt .f32), (.atom 15, .f64n), (.atom 16, .bool), (.atom 17, .bool), (.atom 18, .bool), (.atom 19, .int .i32), (.atom 20, .flt .f64), (.atom 21, .flt .f32), (.atom 22, .f64n), (.atom 23, .bool), (.atom 24, .bool), (.atom 25, .bool), (.atom 26, .int .i32)]) (fs := []) (xs := [.flt .f32 s, .flt .f32 a, .flt .f32 b, .flt .f32 c, .bool (sideX s), .bool (finX a b c), .flt .f64 w32, .flt .f32 w44, .flt .f64 w46, .bool w52, .bool w56, .bool w59, .int .i32 (intQ (quoC a s)), .flt .f64 w73, .flt .f32 w91, .flt .f64 w93, .bool w99, .bool w103, .bool w106, .int .i32 (intQ (quoC b s)), .flt .f64 w122, .flt .f32 w140, .flt .f64 w142, .bool w148, .bool w152, .bool w155, .int .i32 (intQ (quoC c s))]) (ws := [⟨p21, 0, [.nd 1 (.flt .f32), .nd 2 (.flt .f32), .nd 3 (.flt .f32)], false⟩, ⟨p17, 0, [.nd 12 (.int .i32), .nd 19 (.int .i32), .lit (.int .i32 0)], true⟩, ⟨p25, 0, [.lit (.int .i32 0), .lit (.int .i32 0), .lit (.int .i32 0)], true⟩]) (env := [(39, .nd 20 (.flt .f64)), (6, .ptr 1 0), (38, .lit (.int .i64 2)), (41, .ptr 1 1), (7, .lit (.int .i64 2)), (21, .lit (.int .i64 1)), (22, .lit (.int .i64 2)), (19, .lit (.int .i64 2)), (20, .lit (.bool true)), (3, .ptr 0 0), (23, .lit (.int .i64 2)), (24, .ptr 0 2), (0, .nd 0 (.flt .f32)), (25, .nd 3 (.flt .f32)), (26, .nd 0 (.flt .f32)), (27, .nd 21 (.flt .f32)), (28, .nd 22 .f64n), (29, .nd 20 (.flt .f64)), (8, .nd 20 (.flt .f64)), (30, .nd 20 (.flt .f64)), (31, .nd 23 .bool), (33, .nd 20 (.flt .f64)), (32, .nd 23 .bool), (34, .nd 24 .bool), (35, .nd 24 .bool), (36, .nd 25 .bool), (4, .ptr 2 0), (40, .nd 26 (.int .i32))]) ?_ ?_ tb_ok apC_ok ?_
    ·
     refine midN_in ?_ .nil _ ?_ ?_ ?_
     ·
      exact (.cons rfl ⟨_, rfl, hs⟩ (.cons rfl ⟨_, rfl, ha⟩ (.cons rfl ⟨_, rfl, hb⟩ (.cons rfl ⟨_, rfl, hc⟩ (.cons rfl ⟨_, rfl⟩ (.cons rfl ⟨_, rfl⟩ (.cons rfl k34 (.cons rfl ⟨_, rfl, hw44 ▸ fop_ok⟩ (.cons rfl k48 (.cons rfl ⟨_, rfl⟩ (.cons rfl ⟨_, rfl⟩ (.cons rfl ⟨_, rfl⟩ (.cons rfl ⟨_, rfl⟩ (.cons rfl k75 (.cons rfl ⟨_, rfl, hw91 ▸ fop_ok⟩ (.cons rfl k95 (.cons rfl ⟨_, rfl⟩ (.cons rfl ⟨_, rfl⟩ (.cons rfl ⟨_, rfl⟩ (.cons rfl ⟨_, rfl⟩ (.cons rfl k124 (.cons rfl ⟨_, rfl, hw140 ▸ fop_ok⟩ (.cons rfl k144 (.cons rfl ⟨_, rfl⟩ (.cons rfl ⟨_, rfl⟩ (.cons rfl ⟨_, rfl⟩ (.cons rfl ⟨_, rfl⟩ .nil)))))))))))))))))))))))))))
     ·
      exact (.cons (win_row r160 (dlCons (dNd rfl ⟨_, rfl, ha⟩) (dlCons (dNd rfl ⟨_, rfl, hb⟩) (dlCons (dNd rfl ⟨_, rfl, hc⟩) dlNil)))) (.cons (win_own r120 (dlCons (dNd rfl ⟨_, rfl⟩) (dlCons (dNd rfl ⟨_, rfl⟩) (dlCons (dLit rfl) dlNil)))) (.cons (win_own r121 (dlCons (dLit rfl) (dlCons (dLit rfl) (dlCons (dLit rfl) dlNil)))) .nil)))
     ·
      exact ⟨(fun v hv h => (by simp at hv; rcases hv with rfl | rfl <;> first | (simp at h; done) | exact Apart.ne (by assumption) | exact (Apart.ne (by assumption)).symm)), ⟨(fun v hv h => (by simp at hv; rcases hv with rfl <;> first | (simp at h; done) | exact Apart.ne (by assumption) | exact (Apart.ne (by assumption)).symm)), ⟨(fun v hv => (by cases hv)), trivial⟩⟩⟩
     ·
      exact .nil
    ·
     exact (envEq (put_ne rfl b123) (dNd rfl k124) (envEq (put_ne rfl b125) (dPtr (l := p17) (o := 0) rfl) (envEq (put_ne rfl b126) (dLit rfl) (envEq (put_ne rfl b127) (dPtr (l := p17) (o := 0) rfl) (envEq (put_ne rfl b129) (dLit rfl) (envEq (put_ne rfl b130) (dLit rfl) (envEq (put_ne rfl b131) (dLit rfl) (envEq (put_ne rfl b132) (dLit rfl) (envEq (put_ne rfl b133) (dLit rfl) (envEq (put_ne rfl b134) (dPtr (l := p21) (o := 0) rfl) (envEq (put_ne rfl b135) (dLit rfl) (envEq (put_ne rfl b136) (dPtr (l := p21) (o := 0) rfl) (envEq (put_ne rfl b137) (dNd rfl ⟨_, rfl, hs⟩) (envEq (put_ne rfl b138) (dNd rfl ⟨_, rfl, hc⟩) (envEq (put_ne rfl b139) (dNd rfl ⟨_, rfl, hs⟩) (envEq (put_ne rfl b141) (dNd rfl ⟨_, rfl, hw140 ▸ fop_ok⟩) (envEq (put_ne rfl b143) (dNd rfl k144) (envEq (put_ne rfl b145) (dNd rfl k124) (envEq (put_ne rfl b146) (dNd rfl k124) (envEq (put_ne rfl b147) (dNd rfl k124) (envEq (put_ne rfl b149) (dNd rfl ⟨_, rfl⟩) (envEq (put_ne rfl b150) (dNd rfl k124) (envEq (put_ne rfl b151) (dNd rfl ⟨_, rfl⟩) (envEq (put_ne rfl b153) (dNd rfl ⟨_, rfl⟩) (envEq (put_ne rfl b154) (dNd rfl ⟨_, rfl⟩) (envEq (put_ne rfl b156) (dNd rfl ⟨_, rfl⟩) (envEq (put_ne rfl b157) (dPtr (l := p25) (o := 0) rfl) (envEq put_same (dNd rfl ⟨_, rfl⟩) envNil))))))))))))))))))))))))))))
    refine all1 (by kernel_rfl) ?_
    intro vs ls H162 E162 st hE
    refine res_ex (by kernel_rfl) (end_flat st.inn hE (.inr rfl) (a := .tuple [.agg [.int .i32 (intQ (quoC a s)), .int .i32 (intQ (quoC b s)), .int .i32 (intQ (quoC c s))], .int .i64 0]) (by kernel_rfl) (grew_own g159 (st.inn.kept) ⟨op17, ⟨op25, trivial⟩⟩) rfl ⟨?_, rfl⟩)
    simp only [cellX, f15, f16, hbig63, hbig112, hbig161, if_true, Bool.false_eq_true, if_false]
   ·
    intro vs ls H163 E163 st hE
    have f164 : (ford .f64 (some 13920209183539462144) (fInt .down (wid (fop .quo .f32 c s))) == some .lt || ford .f64 (some 13920209183539462144) (fInt .down (wid (fop .quo .f32 c s))) == some .eq) = false := bf st 0
    refine res_ex (by kernel_rfl) (end_flat st.inn hE (.inr rfl) (a := .tuple [.agg [.int .i32 0, .int .i32 0, .int .i32 0], .int .i64 3]) (by kernel_rfl) (grew_own g110 (st.inn.kept) ⟨op17, ⟨op25, trivial⟩⟩) rfl ⟨?_, rfl⟩)
    have hbig165 : bigC (quoC c s) = true := by rw [big_eq (quoC_ok _ _) (quoC_some hc hs (finX_all f15).2.2 (sideX_pos f16).1 (sideX_pos f16).2)]; unfold quoC nmil mil; simp only [f164]; rfl
    simp only [cellX, f15, f16, hbig63, hbig112, hbig165, if_true, Bool.false_eq_true, if_false]
  ·
   intro vs ls H166 E166 st hE
   have f167 : (ford .f64 (some 13920209183539462144) (fInt .down (wid (fop .quo .f32 b s))) == some .lt || ford .f64 (some 13920209183539462144) (fInt .down (wid (fop .quo .f32 b s))) == some .eq) = false := bf st 0
   refine res_ex (by kernel_rfl) (end_flat st.inn hE (.inr rfl) (a := .tuple [.agg [.int .i32 0, .int .i32 0, .int .i32 0], .int .i64 3]) (by kernel_rfl) (grew_own g62 (st.inn.kept) ⟨op17, ⟨op25, trivial⟩⟩) rfl ⟨?_, rfl⟩)
   have hbig168 : bigC (quoC b s) = true := by rw [big_eq (quoC_ok _ _) (quoC_some hb hs (finX_all f15).2.1 (sideX_pos f16).1 (sideX_pos f16).2)]; unfold quoC nmil mil; simp only [f167]; rfl
   simp only [cellX, f15, f16, hbig63, hbig168, if_true, Bool.false_eq_true, if_false]
 ·
  intro vs ls H169 E169 st hE
  have f170 : (ford .f64 (some 13920209183539462144) (fInt .down (wid (fop .quo .f32 a s))) == some .lt || ford .f64 (some 13920209183539462144) (fInt .down (wid (fop .quo .f32 a s))) == some .eq) = false := bf st 0
  have f171 : (finX a b c) = true := bf st 1
  have f172 : (sideX s) = true := bf st 2
  refine res_ex (by kernel_rfl) (end_flat st.inn hE (.inr rfl) (a := .tuple [.agg [.int .i32 0, .int .i32 0, .int .i32 0], .int .i64 3]) (by kernel_rfl) (Grew.trans (Grew.refl _) (gk st)) rfl ⟨?_, rfl⟩)
  have hbig173 : bigC (quoC a s) = true := by rw [big_eq (quoC_ok _ _) (quoC_some ha hs (finX_all f171).1 (sideX_pos f172).1 (sideX_pos f172).2)]; unfold quoC nmil mil; simp only [f170]; rfl
  simp only [cellX, f171, f172, hbig173, if_true, Bool.false_eq_true, if_false]
end Go.Proofs.Ytgjhjemmddojfaa
