/- The law of CentreOf, walked. -/
import Derived.Test.YtgjhjemmddojfaaTCentre
import Derived.Test.YtgjhjemmddojfaaTMapW
set_option linter.unusedVariables false
set_option linter.unusedSimpArgs false
namespace Go.Proofs.Ytgjhjemmddojfaa
open Go.Ab
set_option maxRecDepth 100000
set_option maxHeartbeats 1000000
attribute [local irreducible] Res
theorem centreF_3 (x : Option Nat) (ms : List (List AV)) : ∃ (a b c : Option Nat) (k : Int), centreF x ms = ([.flt .f32 a, .flt .f32 b, .flt .f32 c], k) ∧ fOk .f32 a ∧ fOk .f32 b ∧ fOk .f32 c := by
 unfold centreF
 split
 ·
  split
  ·
   exact ⟨_, _, _, _, rfl, zero_ok32, zero_ok32, zero_ok32⟩
  ·
   exact ⟨_, _, _, _, rfl, fop_ok, fop_ok, fop_ok⟩
 ·
  exact ⟨_, _, _, _, rfl, zero_ok32, zero_ok32, zero_ok32⟩
theorem k_eqVec (a b c : Option Nat) (ha : fOk .f32 a) (hb : fOk .f32 b) (hc : fOk .f32 c) (H : AHeap) : APure Try.prog 41 [.agg [.flt .f32 a, .flt .f32 b, .flt .f32 c], .agg [.flt .f32 a, .flt .f32 b, .flt .f32 c]] H (.bool true) := by
 refine res_start h_laws_eqVec (by simp) ?_
 have q1 : KdsL [KF, KF, KF] [.flt .f32 a, .flt .f32 b, .flt .f32 c] := .cons ⟨_, rfl, ha⟩ (.cons ⟨_, rfl, hb⟩ (.cons ⟨_, rfl, hc⟩ .nil))
 refine run_mc (φ := φ0) (pm := pmR 0 [] 5) 20 (ws := []) (env := [(0, .agg [nF 0, nF 1, nF 2]), (1, .agg [nF 0, nF 1, nF 2])]) q1 .nil (sepOk_ro rfl) .nil (eC q1 (.cons (t := 0) rfl (.cons (t := 1) rfl .nil))) tb_ok ap_ok ?_
 refine all27 (by kernel_rfl) ?_ ?_ ?_ ?_ ?_ ?_ ?_ ?_ ?_ ?_ ?_ ?_ ?_ ?_ ?_ ?_ ?_ ?_ ?_ ?_ ?_ ?_ ?_ ?_ ?_ ?_ ?_
 ·
  intro vs ls H2 E2 st hE
  have f3 : (ford .f64 (wid c) (wid c) == some .eq) = false := bf st 0
  have f4 : (ford .f64 (wid b) (wid b) == some .eq) = false := bf st 1
  have f5 : (ford .f64 (wid a) (wid a) == some .eq) = false := bf st 2
  refine res_ex (by kernel_rfl) (end_flat st.inn hE (.inr rfl) (a := .bool true) (by kernel_rfl) (Grew.trans (Grew.refl _) (gk st)) rfl ⟨?_, rfl⟩)
  rfl
 ·
  intro vs ls H6 E6 st hE
  have f7 : (ford .f64 (wid c) (some 0) == some .eq) = true := bf st 0
  have f8 : (ford .f64 (wid c) (wid c) == some .eq) = true := bf st 1
  have f9 : (ford .f64 (wid b) (wid b) == some .eq) = false := bf st 2
  have f10 : (ford .f64 (wid a) (wid a) == some .eq) = false := bf st 3
  refine res_ex (by kernel_rfl) (end_flat st.inn hE (.inr rfl) (a := .bool true) (by kernel_rfl) (Grew.trans (Grew.refl _) (gk st)) rfl ⟨?_, rfl⟩)
  rfl
 ·
  intro vs ls H11 E11 st hE
  have f12 : (ford .f64 (wid c) (some 0) == some .eq) = false := bf st 0
  have f13 : (ford .f64 (wid c) (wid c) == some .eq) = true := bf st 1
  have f14 : (ford .f64 (wid b) (wid b) == some .eq) = false := bf st 2
  have f15 : (ford .f64 (wid a) (wid a) == some .eq) = false := bf st 3
  refine res_ex (by kernel_rfl) (end_flat st.inn hE (.inr rfl) (a := .bool true) (by kernel_rfl) (Grew.trans (Grew.refl _) (gk st)) rfl ⟨?_, rfl⟩)
  rfl
 ·
  intro vs ls H16 E16 st hE
  have f17 : (ford .f64 (wid c) (wid c) == some .eq) = false := bf st 0
  have f18 : (ford .f64 (wid b) (some 0) == some .eq) = true := bf st 1
  have f19 : (ford .f64 (wid b) (wid b) == some .eq) = true := bf st 2
  have f20 : (ford .f64 (wid a) (wid a) == some .eq) = false := bf st 3
  refine res_ex (by kernel_rfl) (end_flat st.inn hE (.inr rfl) (a := .bool true) (by kernel_rfl) (Grew.trans (Grew.refl _) (gk st)) rfl ⟨?_, rfl⟩)
  rfl
 ·
  intro vs ls H21 E21 st hE
  have f22 : (ford .f64 (wid c) (some 0) == some .eq) = true := bf st 0
  have f23 : (ford .f64 (wid c) (wid c) == some .eq) = true := bf st 1
  have f24 : (ford .f64 (wid b) (some 0) == some .eq) = true := bf st 2
  have f25 : (ford .f64 (wid b) (wid b) == some .eq) = true := bf st 3
  have f26 : (ford .f64 (wid a) (wid a) == some .eq) = false := bf st 4
  refine res_ex (by kernel_rfl) (end_flat st.inn hE (.inr rfl) (a := .bool true) (by kernel_rfl) (Grew.trans (Grew.refl _) (gk st)) rfl ⟨?_, rfl⟩)
  rfl
 ·
  intro vs ls H27 E27 st hE
  have f28 : (ford .f64 (wid c) (some 0) == some .eq) = false := bf st 0
  have f29 : (ford .f64 (wid c) (wid c) == some .eq) = true := bf st 1
  have f30 : (ford .f64 (wid b) (some 0) == some .eq) = true := bf st 2
  have f31 : (ford .f64 (wid b) (wid b) == some .eq) = true := bf st 3
  have f32 : (ford .f64 (wid a) (wid a) == some .eq) = false := bf st 4
  refine res_ex (by kernel_rfl) (end_flat st.inn hE (.inr rfl) (a := .bool true) (by kernel_rfl) (Grew.trans (Grew.refl _) (gk st)) rfl ⟨?_, rfl⟩)
  rfl
 ·
  intro vs ls H33 E33 st hE
  have f34 : (ford .f64 (wid c) (wid c) == some .eq) = false := bf st 0
  have f35 : (ford .f64 (wid b) (some 0) == some .eq) = false := bf st 1
  have f36 : (ford .f64 (wid b) (wid b) == some .eq) = true := bf st 2
  have f37 : (ford .f64 (wid a) (wid a) == some .eq) = false := bf st 3
  refine res_ex (by kernel_rfl) (end_flat st.inn hE (.inr rfl) (a := .bool true) (by kernel_rfl) (Grew.trans (Grew.refl _) (gk st)) rfl ⟨?_, rfl⟩)
  rfl
 ·
  intro vs ls H38 E38 st hE
  have f39 : (ford .f64 (wid c) (some 0) == some .eq) = true := bf st 0
  have f40 : (ford .f64 (wid c) (wid c) == some .eq) = true := bf st 1
  have f41 : (ford .f64 (wid b) (some 0) == some .eq) = false := bf st 2
  have f42 : (ford .f64 (wid b) (wid b) == some .eq) = true := bf st 3
  have f43 : (ford .f64 (wid a) (wid a) == some .eq) = false := bf st 4
  refine res_ex (by kernel_rfl) (end_flat st.inn hE (.inr rfl) (a := .bool true) (by kernel_rfl) (Grew.trans (Grew.refl _) (gk st)) rfl ⟨?_, rfl⟩)
  rfl
 ·
  intro vs ls H44 E44 st hE
  have f45 : (ford .f64 (wid c) (some 0) == some .eq) = false := bf st 0
  have f46 : (ford .f64 (wid c) (wid c) == some .eq) = true := bf st 1
  have f47 : (ford .f64 (wid b) (some 0) == some .eq) = false := bf st 2
  have f48 : (ford .f64 (wid b) (wid b) == some .eq) = true := bf st 3
  have f49 : (ford .f64 (wid a) (wid a) == some .eq) = false := bf st 4
  refine res_ex (by kernel_rfl) (end_flat st.inn hE (.inr rfl) (a := .bool true) (by kernel_rfl) (Grew.trans (Grew.refl _) (gk st)) rfl ⟨?_, rfl⟩)
  rfl
 ·
  intro vs ls H50 E50 st hE
  have f51 : (ford .f64 (wid c) (wid c) == some .eq) = false := bf st 0
  have f52 : (ford .f64 (wid b) (wid b) == some .eq) = false := bf st 1
  have f53 : (ford .f64 (wid a) (some 0) == some .eq) = true := bf st 2
  have f54 : (ford .f64 (wid a) (wid a) == some .eq) = true := bf st 3
  refine res_ex (by kernel_rfl) (end_flat st.inn hE (.inr rfl) (a := .bool true) (by kernel_rfl) (Grew.trans (Grew.refl _) (gk st)) rfl ⟨?_, rfl⟩)
  rfl
 ·
  intro vs ls H55 E55 st hE
  have f56 : (ford .f64 (wid c) (some 0) == some .eq) = true := bf st 0
  have f57 : (ford .f64 (wid c) (wid c) == some .eq) = true := bf st 1
  have f58 : (ford .f64 (wid b) (wid b) == some .eq) = false := bf st 2
  have f59 : (ford .f64 (wid a) (some 0) == some .eq) = true := bf st 3
  have f60 : (ford .f64 (wid a) (wid a) == some .eq) = true := bf st 4
  refine res_ex (by kernel_rfl) (end_flat st.inn hE (.inr rfl) (a := .bool true) (by kernel_rfl) (Grew.trans (Grew.refl _) (gk st)) rfl ⟨?_, rfl⟩)
  rfl
 ·
  intro vs ls H61 E61 st hE
  have f62 : (ford .f64 (wid c) (some 0) == some .eq) = false := bf st 0
  have f63 : (ford .f64 (wid c) (wid c) == some .eq) = true := bf st 1
  have f64 : (ford .f64 (wid b) (wid b) == some .eq) = false := bf st 2
  have f65 : (ford .f64 (wid a) (some 0) == some .eq) = true := bf st 3
  have f66 : (ford .f64 (wid a) (wid a) == some .eq) = true := bf st 4
  refine res_ex (by kernel_rfl) (end_flat st.inn hE (.inr rfl) (a := .bool true) (by kernel_rfl) (Grew.trans (Grew.refl _) (gk st)) rfl ⟨?_, rfl⟩)
  rfl
 ·
  intro vs ls H67 E67 st hE
  have f68 : (ford .f64 (wid c) (wid c) == some .eq) = false := bf st 0
  have f69 : (ford .f64 (wid b) (some 0) == some .eq) = true := bf st 1
  have f70 : (ford .f64 (wid b) (wid b) == some .eq) = true := bf st 2
  have f71 : (ford .f64 (wid a) (some 0) == some .eq) = true := bf st 3
  have f72 : (ford .f64 (wid a) (wid a) == some .eq) = true := bf st 4
  refine res_ex (by kernel_rfl) (end_flat st.inn hE (.inr rfl) (a := .bool true) (by kernel_rfl) (Grew.trans (Grew.refl _) (gk st)) rfl ⟨?_, rfl⟩)
  rfl
 ·
  intro vs ls H73 E73 st hE
  have f74 : (ford .f64 (wid c) (some 0) == some .eq) = true := bf st 0
  have f75 : (ford .f64 (wid c) (wid c) == some .eq) = true := bf st 1
  have f76 : (ford .f64 (wid b) (some 0) == some .eq) = true := bf st 2
  have f77 : (ford .f64 (wid b) (wid b) == some .eq) = true := bf st 3
  have f78 : (ford .f64 (wid a) (some 0) == some .eq) = true := bf st 4
  have f79 : (ford .f64 (wid a) (wid a) == some .eq) = true := bf st 5
  refine res_ex (by kernel_rfl) (end_flat st.inn hE (.inr rfl) (a := .bool true) (by kernel_rfl) (Grew.trans (Grew.refl _) (gk st)) rfl ⟨?_, rfl⟩)
  rfl
 ·
  intro vs ls H80 E80 st hE
  have f81 : (ford .f64 (wid c) (some 0) == some .eq) = false := bf st 0
  have f82 : (ford .f64 (wid c) (wid c) == some .eq) = true := bf st 1
  have f83 : (ford .f64 (wid b) (some 0) == some .eq) = true := bf st 2
  have f84 : (ford .f64 (wid b) (wid b) == some .eq) = true := bf st 3
  have f85 : (ford .f64 (wid a) (some 0) == some .eq) = true := bf st 4
  have f86 : (ford .f64 (wid a) (wid a) == some .eq) = true := bf st 5
  refine res_ex (by kernel_rfl) (end_flat st.inn hE (.inr rfl) (a := .bool true) (by kernel_rfl) (Grew.trans (Grew.refl _) (gk st)) rfl ⟨?_, rfl⟩)
  rfl
 ·
  intro vs ls H87 E87 st hE
  have f88 : (ford .f64 (wid c) (wid c) == some .eq) = false := bf st 0
  have f89 : (ford .f64 (wid b) (some 0) == some .eq) = false := bf st 1
  have f90 : (ford .f64 (wid b) (wid b) == some .eq) = true := bf st 2
  have f91 : (ford .f64 (wid a) (some 0) == some .eq) = true := bf st 3
  have f92 : (ford .f64 (wid a) (wid a) == some .eq) = true := bf st 4
  refine res_ex (by kernel_rfl) (end_flat st.inn hE (.inr rfl) (a := .bool true) (by kernel_rfl) (Grew.trans (Grew.refl _) (gk st)) rfl ⟨?_, rfl⟩)
  rfl
 ·
  intro vs ls H93 E93 st hE
  have f94 : (ford .f64 (wid c) (some 0) == some .eq) = true := bf st 0
  have f95 : (ford .f64 (wid c) (wid c) == some .eq) = true := bf st 1
  have f96 : (ford .f64 (wid b) (some 0) == some .eq) = false := bf st 2
  have f97 : (ford .f64 (wid b) (wid b) == some .eq) = true := bf st 3
  have f98 : (ford .f64 (wid a) (some 0) == some .eq) = true := bf st 4
  have f99 : (ford .f64 (wid a) (wid a) == some .eq) = true := bf st 5
  refine res_ex (by kernel_rfl) (end_flat st.inn hE (.inr rfl) (a := .bool true) (by kernel_rfl) (Grew.trans (Grew.refl _) (gk st)) rfl ⟨?_, rfl⟩)
  rfl
 ·
  intro vs ls H100 E100 st hE
  have f101 : (ford .f64 (wid c) (some 0) == some .eq) = false := bf st 0
  have f102 : (ford .f64 (wid c) (wid c) == some .eq) = true := bf st 1
  have f103 : (ford .f64 (wid b) (some 0) == some .eq) = false := bf st 2
  have f104 : (ford .f64 (wid b) (wid b) == some .eq) = true := bf st 3
  have f105 : (ford .f64 (wid a) (some 0) == some .eq) = true := bf st 4
  have f106 : (ford .f64 (wid a) (wid a) == some .eq) = true := bf st 5
  refine res_ex (by kernel_rfl) (end_flat st.inn hE (.inr rfl) (a := .bool true) (by kernel_rfl) (Grew.trans (Grew.refl _) (gk st)) rfl ⟨?_, rfl⟩)
  rfl
 ·
  intro vs ls H107 E107 st hE
  have f108 : (ford .f64 (wid c) (wid c) == some .eq) = false := bf st 0
  have f109 : (ford .f64 (wid b) (wid b) == some .eq) = false := bf st 1
  have f110 : (ford .f64 (wid a) (some 0) == some .eq) = false := bf st 2
  have f111 : (ford .f64 (wid a) (wid a) == some .eq) = true := bf st 3
  refine res_ex (by kernel_rfl) (end_flat st.inn hE (.inr rfl) (a := .bool true) (by kernel_rfl) (Grew.trans (Grew.refl _) (gk st)) rfl ⟨?_, rfl⟩)
  rfl
 ·
  intro vs ls H112 E112 st hE
  have f113 : (ford .f64 (wid c) (some 0) == some .eq) = true := bf st 0
  have f114 : (ford .f64 (wid c) (wid c) == some .eq) = true := bf st 1
  have f115 : (ford .f64 (wid b) (wid b) == some .eq) = false := bf st 2
  have f116 : (ford .f64 (wid a) (some 0) == some .eq) = false := bf st 3
  have f117 : (ford .f64 (wid a) (wid a) == some .eq) = true := bf st 4
  refine res_ex (by kernel_rfl) (end_flat st.inn hE (.inr rfl) (a := .bool true) (by kernel_rfl) (Grew.trans (Grew.refl _) (gk st)) rfl ⟨?_, rfl⟩)
  rfl
 ·
  intro vs ls H118 E118 st hE
  have f119 : (ford .f64 (wid c) (some 0) == some .eq) = false := bf st 0
  have f120 : (ford .f64 (wid c) (wid c) == some .eq) = true := bf st 1
  have f121 : (ford .f64 (wid b) (wid b) == some .eq) = false := bf st 2
  have f122 : (ford .f64 (wid a) (some 0) == some .eq) = false := bf st 3
  have f123 : (ford .f64 (wid a) (wid a) == some .eq) = true := bf st 4
  refine res_ex (by kernel_rfl) (end_flat st.inn hE (.inr rfl) (a := .bool true) (by kernel_rfl) (Grew.trans (Grew.refl _) (gk st)) rfl ⟨?_, rfl⟩)
  rfl
 ·
  intro vs ls H124 E124 st hE
  have f125 : (ford .f64 (wid c) (wid c) == some .eq) = false := bf st 0
  have f126 : (ford .f64 (wid b) (some 0) == some .eq) = true := bf st 1
  have f127 : (ford .f64 (wid b) (wid b) == some .eq) = true := bf st 2
  have f128 : (ford .f64 (wid a) (some 0) == some .eq) = false := bf st 3
  have f129 : (ford .f64 (wid a) (wid a) == some .eq) = true := bf st 4
  refine res_ex (by kernel_rfl) (end_flat st.inn hE (.inr rfl) (a := .bool true) (by kernel_rfl) (Grew.trans (Grew.refl _) (gk st)) rfl ⟨?_, rfl⟩)
  rfl
 ·
  intro vs ls H130 E130 st hE
  have f131 : (ford .f64 (wid c) (some 0) == some .eq) = true := bf st 0
  have f132 : (ford .f64 (wid c) (wid c) == some .eq) = true := bf st 1
  have f133 : (ford .f64 (wid b) (some 0) == some .eq) = true := bf st 2
  have f134 : (ford .f64 (wid b) (wid b) == some .eq) = true := bf st 3
  have f135 : (ford .f64 (wid a) (some 0) == some .eq) = false := bf st 4
  have f136 : (ford .f64 (wid a) (wid a) == some .eq) = true := bf st 5
  refine res_ex (by kernel_rfl) (end_flat st.inn hE (.inr rfl) (a := .bool true) (by kernel_rfl) (Grew.trans (Grew.refl _) (gk st)) rfl ⟨?_, rfl⟩)
  rfl
 ·
  intro vs ls H137 E137 st hE
  have f138 : (ford .f64 (wid c) (some 0) == some .eq) = false := bf st 0
  have f139 : (ford .f64 (wid c) (wid c) == some .eq) = true := bf st 1
  have f140 : (ford .f64 (wid b) (some 0) == some .eq) = true := bf st 2
  have f141 : (ford .f64 (wid b) (wid b) == some .eq) = true := bf st 3
  have f142 : (ford .f64 (wid a) (some 0) == some .eq) = false := bf st 4
  have f143 : (ford .f64 (wid a) (wid a) == some .eq) = true := bf st 5
  refine res_ex (by kernel_rfl) (end_flat st.inn hE (.inr rfl) (a := .bool true) (by kernel_rfl) (Grew.trans (Grew.refl _) (gk st)) rfl ⟨?_, rfl⟩)
  rfl
 ·
  intro vs ls H144 E144 st hE
  have f145 : (ford .f64 (wid c) (wid c) == some .eq) = false := bf st 0
  have f146 : (ford .f64 (wid b) (some 0) == some .eq) = false := bf st 1
  have f147 : (ford .f64 (wid b) (wid b) == some .eq) = true := bf st 2
  have f148 : (ford .f64 (wid a) (some 0) == some .eq) = false := bf st 3
  have f149 : (ford .f64 (wid a) (wid a) == some .eq) = true := bf st 4
  refine res_ex (by kernel_rfl) (end_flat st.inn hE (.inr rfl) (a := .bool true) (by kernel_rfl) (Grew.trans (Grew.refl _) (gk st)) rfl ⟨?_, rfl⟩)
  rfl
 ·
  intro vs ls H150 E150 st hE
  have f151 : (ford .f64 (wid c) (some 0) == some .eq) = true := bf st 0
  have f152 : (ford .f64 (wid c) (wid c) == some .eq) = true := bf st 1
  have f153 : (ford .f64 (wid b) (some 0) == some .eq) = false := bf st 2
  have f154 : (ford .f64 (wid b) (wid b) == some .eq) = true := bf st 3
  have f155 : (ford .f64 (wid a) (some 0) == some .eq) = false := bf st 4
  have f156 : (ford .f64 (wid a) (wid a) == some .eq) = true := bf st 5
  refine res_ex (by kernel_rfl) (end_flat st.inn hE (.inr rfl) (a := .bool true) (by kernel_rfl) (Grew.trans (Grew.refl _) (gk st)) rfl ⟨?_, rfl⟩)
  rfl
 ·
  intro vs ls H157 E157 st hE
  have f158 : (ford .f64 (wid c) (some 0) == some .eq) = false := bf st 0
  have f159 : (ford .f64 (wid c) (wid c) == some .eq) = true := bf st 1
  have f160 : (ford .f64 (wid b) (some 0) == some .eq) = false := bf st 2
  have f161 : (ford .f64 (wid b) (wid b) == some .eq) = true := bf st 3
  have f162 : (ford .f64 (wid a) (some 0) == some .eq) = false := bf st 4
  have f163 : (ford .f64 (wid a) (wid a) == some .eq) = true := bf st 5
  refine res_ex (by kernel_rfl) (end_flat st.inn hE (.inr rfl) (a := .bool true) (by kernel_rfl) (Grew.trans (Grew.refl _) (gk st)) rfl ⟨?_, rfl⟩)
  rfl
theorem lawExactCentreOf (H : AHeap) (vs : List AV) (h : FitArgs H [(true, [.flt .f32, .sl [.int .i32, .int .i32, .int .i32, .flt .f32, .flt .f32, .flt .f32, .flt .f32, .int .i64, .int .i64]])] vs) : ACalls Try.prog 10 vs H fun r _ => r = .bool true := by
 match vs, h with
 | [a], h =>
 obtain ⟨x, ms, S, rfl, hx, hr, hS, hmx⟩ := mapArg h.1
 clear h
 obtain ⟨a, b, c, k, hmk, ha, hb, hc⟩ := centreF_3 x ms
 refine res_start h_laws_FnExactCentreOf (by simp) ?_
 obtain ⟨q1, kq1, hq1⟩ : ∃ r : Int, (∀ H9, Grew H H9 → APure Try.prog 30 [.agg [.flt .f32 x, S], .int .i64 1048576] H9 (.int .i64 r)) ∧ (r < 0 ∨ r = 1048576 - ms.length) := ⟨_, fun H9 hk => k_szLandMap H9 x hx ms S (hS.grew (Grew.trans (Grew.refl _) hk)) 1048576 (by omega) (by omega) hmx, by split <;> omega⟩
 have q2 : KdsL [KF, .one, KF, KF, KF, KI, KI] [.flt .f32 x, S, .flt .f32 a, .flt .f32 b, .flt .f32 c, .int .i64 k, .int .i64 q1] := .cons ⟨_, rfl, hx⟩ (.cons (slOne hS) (.cons ⟨_, rfl, ha⟩ (.cons ⟨_, rfl, hb⟩ (.cons ⟨_, rfl, hc⟩ (.cons ⟨_, rfl⟩ (.cons ⟨_, rfl⟩ .nil))))))
 refine run_mc (φ := φ0) (pm := pmR 0 [(.call 30 [.agg [nF 0, n1 1], .lit (.int .i64 1048576)], nI 6)] 5) 20 (ws := []) (env := [(0, .agg [nF 0, n1 1])]) q2 .nil (sepOk_ro rfl) (.cons (rule_call (args := [.agg [.flt .f32 x, S], .int .i64 1048576]) (dL q2) (dE q2) (fun H9 hk => kq1 H9 (hk.grew (Nat.le_refl _)))) .nil) (eC q2 (.cons (t := 0) rfl .nil)) tb_ok ap_ok ?_
 refine all2 (by kernel_rfl) ?_ ?_
 ·
  intro vs ls H3 E3 st hE
  have f4 : q1 < 0 := dt st 0
  exact res_ex (by kernel_rfl) (end_same st.inn hE (.inr rfl) (a := .bool true) (by kernel_rfl) (Nat.le_trans (Nat.le_refl _) st.kept.1) rfl)
 ·
  intro vs ls H5 E5 st hE
  have f6 : ¬ (q1 < 0) := df st 0
  have mxms : ms.length ≤ 1048576 := by omega
  obtain ⟨p7, e8, r9, n10⟩ := ptr_of st.inn hE 1 0 (by kernel_rfl) (ds := [.flt .f32 x, S]) (by kernel_rfl)
  have op7 : H.next ≤ p7 := Nat.le_trans (Nat.le_refl _) (n10 (Nat.le_of_ble_eq_true rfl))
  have b11 := eo st hE 15 (.agg [.flt .f32 x, S])
  have g12 : Grew H H5 := (gk st)
  have g13 : Grew H H5 := Grew.trans (Grew.refl _) g12
  clear st hE vs ls
  refine res_call (d := (some 16)) (f := 32) (args := [.tmp 15]) (by kernel_rfl) (R := fun z H' => Grew H5 H' ∧ ∃ S', z = .agg [.flt .f32 x, S'] ∧ SlW H' 9 ms S' ∧ FreshS H5.next S') ?_ ?_
  ·
   show ACalls _ _ [E5 15] _ _
   rw [b11]
   exact w_toLandMap H5 x hx ms hr S (hS.grew g13) mxms
  rintro z H15 ⟨gS14, S14, rfl, sS14, fS14⟩
  have ne16 : ApartL (S14) p7 := fS14.apartL (H5.lt_of_get r9)
  have fr17 : FreshS H.next (S14) := fS14.mono g13.next
  have g18 : Grew H H15 := Grew.trans g13 gS14
  have r19 := gS14.at r9
  have q20 := q2.app (.cons sS14.one .nil : KdsL [.one] [S14])
  refine run_mc (φ := φ0) (pm := pmR 1 [(.call 39 [.agg [nF 0, n1 7]], .tup [.agg [nF 2, nF 3, nF 4], nI 5])] 5) 20 (ws := [⟨p7, 0, [nF 0, n1 1], false⟩]) (env := [(15, .agg [nF 0, n1 1]), (1, .ptr 0 0), (16, .agg [nF 0, n1 7])]) q20 (.cons (wR r19 q20) .nil) (sepOk_ro rfl) (.cons (rule_call (args := [.agg [.flt .f32 x, S14]]) (r := .tuple [.agg [.flt .f32 a, .flt .f32 b, .flt .f32 c], .int .i64 k]) (dL q20) (dE q20) (fun H9 hk => (by have h := k_spec_CentreOf H9 x hx ms hr _ ((sS14.grew (hk.grew (Nat.le_refl _)))).toL mxms; rw [hmk] at h; exact h))) .nil) (eC q20 (.cons (put_ne rfl b11) (.cons (put_ne rfl e8) (.cons put_same .nil)))) tb_ok ap_ok ?_
  refine all1 (by kernel_rfl) ?_
  intro vs ls H21 E21 st hE
  obtain ⟨p22, e23, r24, n25⟩ := ptr_of st.inn hE 4 1 (by kernel_rfl) (ds := [.flt .f32 a, .flt .f32 b, .flt .f32 c]) (by kernel_rfl)
  have op22 : H.next ≤ p22 := Nat.le_trans g18.next (n25 (Nat.le_of_ble_eq_true rfl))
  have ne26 := apn r19 (n25 (Nat.le_of_ble_eq_true rfl))
  have ne27 : ApartL (S14) p22 := sS14.apart_new (n25 (Nat.le_of_ble_eq_true rfl))
  have b28 := eo st hE 20 (.agg [.flt .f32 x, S])
  have b29 := eo st hE 5 (.int .i64 k)
  have b30 := eo st hE 1 (.ptr p7 0)
  have g31 : Grew H15 H21 := (gk st)
  have g32 : Grew H H21 := Grew.trans g18 g31
  have r33 := g31.at r19
  have s34 := sS14.grew g31
  clear st hE vs ls
  refine res_call (d := (some 21)) (f := 32) (args := [.tmp 20]) (by kernel_rfl) (R := fun z H' => Grew H21 H' ∧ ∃ S', z = .agg [.flt .f32 x, S'] ∧ SlW H' 9 ms S' ∧ FreshS H21.next S') ?_ ?_
  ·
   show ACalls _ _ [E21 20] _ _
   rw [b28]
   exact w_toLandMap H21 x hx ms hr S (hS.grew g32) mxms
  rintro z H36 ⟨gS35, S35, rfl, sS35, fS35⟩
  have ne37 : ApartL (S35) p7 := fS35.apartL (H21.lt_of_get r33)
  have ne38 : ApartL (S35) p22 := fS35.apartL (H21.lt_of_get r24)
  have ne39 : ApartS (S35) (S14) := fS35.apartS s34.lt
  have fr40 : FreshS H.next (S35) := fS35.mono g32.next
  have g41 : Grew H H36 := Grew.trans g32 gS35
  have r42 := gS35.at r33
  have r43 := gS35.at r24
  have s44 := s34.grew gS35
  have q45 := q20.app (.cons sS35.one .nil : KdsL [.one] [S35])
  refine run_mc (φ := φ0) (pm := pmR 2 [(.call 40 [.agg [nF 0, n1 8]], .tup [.agg [nF 2, nF 3, nF 4], nI 5]), (.call 41 [.agg [nF 2, nF 3, nF 4], .agg [nF 2, nF 3, nF 4]], .lit (.bool true))] 5) 20 (ws := [⟨p7, 0, [nF 0, n1 1], false⟩, ⟨p22, 0, [nF 2, nF 3, nF 4], false⟩]) (env := [(20, .agg [nF 0, n1 1]), (4, .ptr 1 0), (5, nI 5), (1, .ptr 0 0), (21, .agg [nF 0, n1 8])]) q45 (.cons (wR r42 q45) (.cons (wR r43 q45) .nil)) (sepOk_ro rfl) (.cons (rule_call (args := [.agg [.flt .f32 x, S35]]) (r := .tuple [.agg [.flt .f32 a, .flt .f32 b, .flt .f32 c], .int .i64 k]) (dL q45) (dE q45) (fun H9 hk => (by have h := k_impl_CentreOf H9 x hx ms hr _ ((sS35.grew (hk.grew (Nat.le_refl _)))).toL mxms; rw [hmk] at h; exact h))) (.cons (rule_call (args := [.agg [.flt .f32 a, .flt .f32 b, .flt .f32 c], .agg [.flt .f32 a, .flt .f32 b, .flt .f32 c]]) (dL q45) (dE q45) (fun H9 hk => k_eqVec a b c ha hb hc H9)) .nil)) (eC q45 (.cons (put_ne rfl b28) (.cons (put_ne rfl e23) (.cons (put_ne rfl b29) (.cons (put_ne rfl b30) (.cons put_same .nil)))))) tb_ok ap_ok ?_
  refine all1 (by kernel_rfl) ?_
  intro vs ls H46 E46 st hE
  have b47 := eo st hE 37 (.agg [.flt .f32 x, S])
  have b48 := eo st hE 36 (.agg [.flt .f32 x, S35])
  have g49 : Grew H36 H46 := (gk st)
  have g50 : Grew H H46 := Grew.trans g41 g49
  have s53 := s44.grew g49
  have s54 := sS35.grew g49
  clear st hE vs ls
  refine res_kid (free := false) (d := (some 38)) (f := 32) (args := [.tmp 37]) (by kernel_rfl) (R := fun z H' => Grew H46 H' ∧ ∃ S', z = .agg [.flt .f32 x, S'] ∧ SlW H' 9 ms S' ∧ FreshS H46.next S') ?_ ?_
  ·
   show ACalls _ _ [E46 37] _ _
   rw [b47]
   exact w_toLandMap H46 x hx ms hr S (hS.grew g50) mxms
  rintro z H56 ⟨gS55, S55, rfl, sS55, fS55⟩
  refine ⟨gS55, ?_⟩
  have ne57 : ApartS (S55) (S14) := fS55.apartS s53.lt
  have ne58 : ApartS (S55) (S35) := fS55.apartS s54.lt
  have fr59 : FreshS H.next (S55) := fS55.mono g50.next
  have g60 : Grew H H56 := Grew.trans g50 gS55
  have s62 := s54.grew gS55
  have q63 := q45.app (.cons sS55.one .nil : KdsL [.one] [S55])
  refine run_mc (φ := φ0) (pm := pmR 0 [(.call 27 [.agg [nF 0, n1 8], .agg [nF 0, n1 9]], .lit (.bool true))] 5) 20 (ws := []) (env := [(37, .agg [nF 0, n1 1]), (36, .agg [nF 0, n1 8]), (38, .agg [nF 0, n1 9])]) q63 .nil (sepOk_ro rfl) (.cons (rule_call (args := [.agg [.flt .f32 x, S35], .agg [.flt .f32 x, S55]]) (dL q63) (dE q63) (fun H9 hk => k_eqLandMap H9 x hx ms hr _ _ ((s62.grew (hk.grew (Nat.le_refl _)))).toL ((sS55.grew (hk.grew (Nat.le_refl _)))).toL (mx40 mxms))) .nil) (eC q63 (.cons (put_ne rfl b47) (.cons (put_ne rfl b48) (.cons put_same .nil)))) tb_ok ap_ok ?_
  refine all1 (by kernel_rfl) ?_
  intro vs ls H64 E64 st hE
  exact res_ex (by kernel_rfl) (end_same st.inn hE (.inr rfl) (a := .bool true) (by kernel_rfl) (Nat.le_trans g60.next st.kept.1) rfl)
end Go.Proofs.Ytgjhjemmddojfaa
