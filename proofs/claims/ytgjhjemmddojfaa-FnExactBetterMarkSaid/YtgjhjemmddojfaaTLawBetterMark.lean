/- The law of BetterMark, walked. -/
import Derived.Test.YtgjhjemmddojfaaTBet
set_option linter.unusedVariables false
set_option linter.unusedSimpArgs false
namespace Go.Proofs.Ytgjhjemmddojfaa
open Go.Ab
set_option maxRecDepth 100000
set_option maxHeartbeats 1000000
attribute [local irreducible] Res
theorem betW_eq (v0 v1 v2 : Int) (v3 v4 v5 v6 : Option Nat) (v7 v8 : Int) (o3 : fOk .f32 v3) (o4 : fOk .f32 v4) (o5 : fOk .f32 v5) (o6 : fOk .f32 v6) (u0 u1 u2 : Int) (u3 u4 u5 u6 : Option Nat) (u7 u8 : Int) (oz3 : fOk .f32 u3) (oz4 : fOk .f32 u4) (oz5 : fOk .f32 u5) (oz6 : fOk .f32 u6) (h : markX [.int .i32 v0, .int .i32 v1, .int .i32 v2, .flt .f32 v3, .flt .f32 v4, .flt .f32 v5, .flt .f32 v6, .int .i64 v7, .int .i64 v8] = true) (h' : markX [.int .i32 u0, .int .i32 u1, .int .i32 u2, .flt .f32 u3, .flt .f32 u4, .flt .f32 u5, .flt .f32 u6, .int .i64 u7, .int .i64 u8] = true) : betW atP [.int .i32 v0, .int .i32 v1, .int .i32 v2, .flt .f32 v3, .flt .f32 v4, .flt .f32 v5, .flt .f32 v6, .int .i64 v7, .int .i64 v8] [.int .i32 u0, .int .i32 u1, .int .i32 u2, .flt .f32 u3, .flt .f32 u4, .flt .f32 u5, .flt .f32 u6, .int .i64 u7, .int .i64 u8] = betW atI [.int .i32 v0, .int .i32 v1, .int .i32 v2, .flt .f32 v3, .flt .f32 v4, .flt .f32 v5, .flt .f32 v6, .int .i64 v7, .int .i64 v8] [.int .i32 u0, .int .i32 u1, .int .i32 u2, .flt .f32 u3, .flt .f32 u4, .flt .f32 u5, .flt .f32 u6, .int .i64 u7, .int .i64 u8] := by
 obtain ⟨a3, a4, a5⟩ := markX_fin h o3 o4 o5
 obtain ⟨b3, b4, b5⟩ := markX_fin h' oz3 oz4 oz5
 simp only [betW, at_eq o3 oz3 a3 b3, at_eq o4 oz4 a4 b4, at_eq o5 oz5 a5 b5]
theorem k_toMark1 (v0 v1 v2 : Int) (v3 v4 v5 v6 : Option Nat) (v7 v8 : Int) (o3 : fOk .f32 v3) (o4 : fOk .f32 v4) (o5 : fOk .f32 v5) (o6 : fOk .f32 v6) (H : AHeap) : APure Try.prog 19 [.agg [.int .i32 v0, .int .i32 v1, .int .i32 v2, .flt .f32 v3, .flt .f32 v4, .flt .f32 v5, .flt .f32 v6, .int .i64 v7, .int .i64 v8]] H (.agg [.int .i32 v0, .int .i32 v1, .int .i32 v2, .flt .f32 v3, .flt .f32 v4, .flt .f32 v5, .flt .f32 v6, .int .i64 v7, .int .i64 v8]) := by
 refine res_start h_laws_toMark (by simp) ?_
 have q1 : KdsL [K2, K2, K2, KF, KF, KF, KF, KI, KI] [.int .i32 v0, .int .i32 v1, .int .i32 v2, .flt .f32 v3, .flt .f32 v4, .flt .f32 v5, .flt .f32 v6, .int .i64 v7, .int .i64 v8] := .cons ⟨_, rfl⟩ (.cons ⟨_, rfl⟩ (.cons ⟨_, rfl⟩ (.cons ⟨_, rfl, o3⟩ (.cons ⟨_, rfl, o4⟩ (.cons ⟨_, rfl, o5⟩ (.cons ⟨_, rfl, o6⟩ (.cons ⟨_, rfl⟩ (.cons ⟨_, rfl⟩ .nil))))))))
 refine run_mc (φ := φ0) (pm := pmR 0 [] 10) 20 (ws := []) (env := [(0, .agg [n2 0, n2 1, n2 2, nF 3, nF 4, nF 5, nF 6, nI 7, nI 8])]) q1 .nil (sepOk_ro rfl) .nil (eC q1 (.cons (t := 0) rfl .nil)) tb_ok ap_ok ?_
 refine all1 (by kernel_rfl) ?_
 intro vs ls H2 E2 st hE
 refine res_ex (by kernel_rfl) (end_flat st.inn hE (.inr rfl) (a := .agg [.int .i32 v0, .int .i32 v1, .int .i32 v2, .flt .f32 v3, .flt .f32 v4, .flt .f32 v5, .flt .f32 v6, .int .i64 v7, .int .i64 v8]) (by kernel_rfl) (Grew.trans (Grew.refl _) (gk st)) rfl ⟨?_, rfl⟩)
 rfl
def tbY : List (Nat × AFun) := tb.filter fun p => !(p.1 == 56 || p.1 == 55)
theorem tbY_ok : TbOk Try.prog tbY := fun f a h => tb_ok f a (List.mem_filter.1 h).1
def pmY (fl : Nat) (ru : List (RK × SV)) (un : Nat) : Pm := ⟨fl, ru, tbY, ap, un⟩
theorem k_spec_BetterMark (v0 v1 v2 : Int) (v3 v4 v5 v6 : Option Nat) (v7 v8 : Int) (o3 : fOk .f32 v3) (o4 : fOk .f32 v4) (o5 : fOk .f32 v5) (o6 : fOk .f32 v6) (u0 u1 u2 : Int) (u3 u4 u5 u6 : Option Nat) (u7 u8 : Int) (oz3 : fOk .f32 u3) (oz4 : fOk .f32 u4) (oz5 : fOk .f32 u5) (oz6 : fOk .f32 u6) (H : AHeap) : APure Try.prog 18 [.agg [.int .i32 v0, .int .i32 v1, .int .i32 v2, .flt .f32 v3, .flt .f32 v4, .flt .f32 v5, .flt .f32 v6, .int .i64 v7, .int .i64 v8], .agg [.int .i32 u0, .int .i32 u1, .int .i32 u2, .flt .f32 u3, .flt .f32 u4, .flt .f32 u5, .flt .f32 u6, .int .i64 u7, .int .i64 u8]] H (.bool (betX [.int .i32 v0, .int .i32 v1, .int .i32 v2, .flt .f32 v3, .flt .f32 v4, .flt .f32 v5, .flt .f32 v6, .int .i64 v7, .int .i64 v8] [.int .i32 u0, .int .i32 u1, .int .i32 u2, .flt .f32 u3, .flt .f32 u4, .flt .f32 u5, .flt .f32 u6, .int .i64 u7, .int .i64 u8])) := by
 refine res_start h_spec_BetterMark (by simp) ?_
 have q1 : KdsL [K2, K2, K2, KF, KF, KF, KF, KI, KI, K2, K2, K2, KF, KF, KF, KF, KI, KI] [.int .i32 v0, .int .i32 v1, .int .i32 v2, .flt .f32 v3, .flt .f32 v4, .flt .f32 v5, .flt .f32 v6, .int .i64 v7, .int .i64 v8, .int .i32 u0, .int .i32 u1, .int .i32 u2, .flt .f32 u3, .flt .f32 u4, .flt .f32 u5, .flt .f32 u6, .int .i64 u7, .int .i64 u8] := .cons ⟨_, rfl⟩ (.cons ⟨_, rfl⟩ (.cons ⟨_, rfl⟩ (.cons ⟨_, rfl, o3⟩ (.cons ⟨_, rfl, o4⟩ (.cons ⟨_, rfl, o5⟩ (.cons ⟨_, rfl, o6⟩ (.cons ⟨_, rfl⟩ (.cons ⟨_, rfl⟩ (.cons ⟨_, rfl⟩ (.cons ⟨_, rfl⟩ (.cons ⟨_, rfl⟩ (.cons ⟨_, rfl, oz3⟩ (.cons ⟨_, rfl, oz4⟩ (.cons ⟨_, rfl, oz5⟩ (.cons ⟨_, rfl, oz6⟩ (.cons ⟨_, rfl⟩ (.cons ⟨_, rfl⟩ .nil)))))))))))))))))
 refine run_mc (φ := φ0) (pm := pmY 0 [] 0) 20 (ws := []) (env := [(0, .agg [n2 0, n2 1, n2 2, nF 3, nF 4, nF 5, nF 6, nI 7, nI 8]), (1, .agg [n2 9, n2 10, n2 11, nF 12, nF 13, nF 14, nF 15, nI 16, nI 17])]) q1 .nil (sepOk_ro rfl) .nil (eC q1 (.cons (t := 0) rfl (.cons (t := 1) rfl .nil))) tbY_ok ap_ok ?_
 refine all1 (by kernel_rfl) ?_
 intro vs ls H2 E2 st hE
 obtain ⟨p3, e4, r5, n6⟩ := ptr_of st.inn hE 2 0 (by kernel_rfl) (ds := [.int .i32 v0, .int .i32 v1, .int .i32 v2, .flt .f32 v3, .flt .f32 v4, .flt .f32 v5, .flt .f32 v6, .int .i64 v7, .int .i64 v8]) (by kernel_rfl)
 have op3 : H.next ≤ p3 := Nat.le_trans (Nat.le_refl _) (n6 (Nat.le_of_ble_eq_true rfl))
 obtain ⟨p7, e8, r9, n10⟩ := ptr_of st.inn hE 3 1 (by kernel_rfl) (ds := [.int .i32 u0, .int .i32 u1, .int .i32 u2, .flt .f32 u3, .flt .f32 u4, .flt .f32 u5, .flt .f32 u6, .int .i64 u7, .int .i64 u8]) (by kernel_rfl)
 have op7 : H.next ≤ p7 := Nat.le_trans (Nat.le_refl _) (n10 (Nat.le_of_ble_eq_true rfl))
 have ne11 : Apart p3 p7 := ⟨ptr_ne st.inn hE 2 0 3 1 (by kernel_rfl) (by kernel_rfl) (cs := [.nd 0 (.int .i32), .nd 1 (.int .i32), .nd 2 (.int .i32), .nd 3 (.flt .f32), .nd 4 (.flt .f32), .nd 5 (.flt .f32), .nd 6 (.flt .f32), .nd 7 (.int .i64), .nd 8 (.int .i64)]) (by kernel_rfl) (by decide) e4 e8⟩
 have g12 : Grew H H2 := (gk st)
 have g13 : Grew H H2 := Grew.trans (Grew.refl _) g12
 clear st hE vs ls
 have q14 := q1.app (.cons ⟨_, rfl⟩ (.cons ⟨_, rfl⟩ .nil) : KdsL [.bool, .bool] [.bool (markX [.int .i32 v0, .int .i32 v1, .int .i32 v2, .flt .f32 v3, .flt .f32 v4, .flt .f32 v5, .flt .f32 v6, .int .i64 v7, .int .i64 v8]), .bool (markX [.int .i32 u0, .int .i32 u1, .int .i32 u2, .flt .f32 u3, .flt .f32 u4, .flt .f32 u5, .flt .f32 u6, .int .i64 u7, .int .i64 u8])])
 refine run_mc (φ := φ0) (pm := pmY 2 [(.call 55 [.ptr 0 0], nB 18), (.call 55 [.ptr 1 0], nB 19)] 0) 20 (ws := [⟨p3, 0, [n2 0, n2 1, n2 2, nF 3, nF 4, nF 5, nF 6, nI 7, nI 8], false⟩, ⟨p7, 0, [n2 9, n2 10, n2 11, nF 12, nF 13, nF 14, nF 15, nI 16, nI 17], false⟩]) (env := [(2, .ptr 0 0), (3, .ptr 1 0)]) q14 (.cons (wR r5 q14) (.cons (wR r9 q14) .nil)) (sepOk_ro rfl) (.cons (rule_call (args := [.ptr p3 0]) (r := .bool (markX [.int .i32 v0, .int .i32 v1, .int .i32 v2, .flt .f32 v3, .flt .f32 v4, .flt .f32 v5, .flt .f32 v6, .int .i64 v7, .int .i64 v8])) (dL q14) (dE q14) (fun H9 hk => k_l05MarkX v0 v1 v2 v3 v4 v5 v6 v7 v8 o3 o4 o5 o6 H9 p3 0 [] [] true (by simpa using ((hk.grew (Nat.le_refl _)).at r5)) rfl)) (.cons (rule_call (args := [.ptr p7 0]) (r := .bool (markX [.int .i32 u0, .int .i32 u1, .int .i32 u2, .flt .f32 u3, .flt .f32 u4, .flt .f32 u5, .flt .f32 u6, .int .i64 u7, .int .i64 u8])) (dL q14) (dE q14) (fun H9 hk => k_l05MarkX u0 u1 u2 u3 u4 u5 u6 u7 u8 oz3 oz4 oz5 oz6 H9 p7 0 [] [] true (by simpa using ((hk.grew (Nat.le_refl _)).at r9)) rfl)) .nil)) (eC q14 (.cons e4 (.cons e8 .nil))) tbY_ok ap_ok ?_
 refine all2 (by kernel_rfl) ?_ ?_
 ·
  intro vs ls H15 E15 st hE
  have f16 : (markX [.int .i32 v0, .int .i32 v1, .int .i32 v2, .flt .f32 v3, .flt .f32 v4, .flt .f32 v5, .flt .f32 v6, .int .i64 v7, .int .i64 v8]) = true := bf st 0
  have b17 := eo st hE 2 (.ptr p3 0)
  have b18 := eo st hE 3 (.ptr p7 0)
  have b19 := eo st hE 9 (.bool (markX [.int .i32 u0, .int .i32 u1, .int .i32 u2, .flt .f32 u3, .flt .f32 u4, .flt .f32 u5, .flt .f32 u6, .int .i64 u7, .int .i64 u8]))
  have g20 : Grew H2 H15 := (gk st)
  have g21 : Grew H H15 := Grew.trans g13 g20
  have r22 := g20.at r5
  have r23 := g20.at r9
  clear st hE vs ls
  rcases hg24 : (markX [.int .i32 u0, .int .i32 u1, .int .i32 u2, .flt .f32 u3, .flt .f32 u4, .flt .f32 u5, .flt .f32 u6, .int .i64 u7, .int .i64 u8]) with _ | _
  ·
   have gd25 : E15 9 = .bool false := by rw [b19, hg24]
   refine res_callgF (d := (some 10)) (f := 56) (args := [.tmp 2, .tmp 3]) (g := 9) (b := true) (by kernel_rfl) gd25 ?_
   refine run_mc (φ := φ0) (pm := pmY 2 [] 0) 20 (ws := [⟨p3, 0, [n2 0, n2 1, n2 2, nF 3, nF 4, nF 5, nF 6, nI 7, nI 8], false⟩, ⟨p7, 0, [n2 9, n2 10, n2 11, nF 12, nF 13, nF 14, nF 15, nI 16, nI 17], false⟩]) (env := [(2, .ptr 0 0), (3, .ptr 1 0), (9, .lit (.bool false)), (10, .lit .undef)]) q14 (.cons (wR r22 q14) (.cons (wR r23 q14) .nil)) (sepOk_ro rfl) .nil (eC q14 (.cons (put_ne rfl b17) (.cons (put_ne rfl b18) (.cons (put_ne rfl gd25) (.cons put_same .nil))))) tbY_ok ap_ok ?_
   refine all1 (by kernel_rfl) ?_
   intro vs ls H27 E27 st hE
   refine res_ex (by kernel_rfl) (end_flat st.inn hE (.inr rfl) (a := .bool false) (by kernel_rfl) (Grew.trans g21 (gk st)) rfl ⟨?_, rfl⟩)
   unfold betX; rw [f16, hg24]
   rfl
  ·
   have gd28 : E15 9 = .bool true := by rw [b19, hg24]
   have gd29 : E15 9 = .bool true := gd28
   refine res_callg (d := (some 10)) (f := 56) (args := [.tmp 2, .tmp 3]) (g := 9) (b := true) (r := .bool (betW atP [.int .i32 v0, .int .i32 v1, .int .i32 v2, .flt .f32 v3, .flt .f32 v4, .flt .f32 v5, .flt .f32 v6, .int .i64 v7, .int .i64 v8] [.int .i32 u0, .int .i32 u1, .int .i32 u2, .flt .f32 u3, .flt .f32 u4, .flt .f32 u5, .flt .f32 u6, .int .i64 u7, .int .i64 u8])) (by kernel_rfl) gd29 ?_ ?_
   ·
    show ACalls _ _ [E15 2, E15 3] _ _
    rw [b17, b18]
    exact k_l05Better v0 v1 v2 v3 v4 v5 v6 v7 v8 o3 o4 o5 o6 u0 u1 u2 u3 u4 u5 u6 u7 u8 oz3 oz4 oz5 oz6 (markX_fin f16 o3 o4 o5).1 (markX_fin f16 o3 o4 o5).2.1 (markX_fin f16 o3 o4 o5).2.2 (markX_fin hg24 oz3 oz4 oz5).1 (markX_fin hg24 oz3 oz4 oz5).2.1 (markX_fin hg24 oz3 oz4 oz5).2.2 H15 p3 0 [] [] true (by simpa using r22) rfl p7 0 [] [] true (by simpa using r23) rfl
   have q30 := q14.app (.cons ⟨_, rfl⟩ .nil : KdsL [.bool] [.bool (betW atP [.int .i32 v0, .int .i32 v1, .int .i32 v2, .flt .f32 v3, .flt .f32 v4, .flt .f32 v5, .flt .f32 v6, .int .i64 v7, .int .i64 v8] [.int .i32 u0, .int .i32 u1, .int .i32 u2, .flt .f32 u3, .flt .f32 u4, .flt .f32 u5, .flt .f32 u6, .int .i64 u7, .int .i64 u8])])
   refine run_mc (φ := φ0) (pm := pmY 2 [] 0) 20 (ws := [⟨p3, 0, [n2 0, n2 1, n2 2, nF 3, nF 4, nF 5, nF 6, nI 7, nI 8], false⟩, ⟨p7, 0, [n2 9, n2 10, n2 11, nF 12, nF 13, nF 14, nF 15, nI 16, nI 17], false⟩]) (env := [(2, .ptr 0 0), (3, .ptr 1 0), (9, .lit (.bool true)), (10, nB 20)]) q30 (.cons (wR r22 q30) (.cons (wR r23 q30) .nil)) (sepOk_ro rfl) .nil (eC q30 (.cons (put_ne rfl b17) (.cons (put_ne rfl b18) (.cons (put_ne rfl gd29) (.cons put_same .nil))))) tbY_ok ap_ok ?_
   refine all1 (by kernel_rfl) ?_
   intro vs ls H31 E31 st hE
   refine res_ex (by kernel_rfl) (end_flat st.inn hE (.inr rfl) (a := .bool (betW atP [.int .i32 v0, .int .i32 v1, .int .i32 v2, .flt .f32 v3, .flt .f32 v4, .flt .f32 v5, .flt .f32 v6, .int .i64 v7, .int .i64 v8] [.int .i32 u0, .int .i32 u1, .int .i32 u2, .flt .f32 u3, .flt .f32 u4, .flt .f32 u5, .flt .f32 u6, .int .i64 u7, .int .i64 u8])) (by kernel_rfl) (Grew.trans g21 (gk st)) rfl ⟨?_, rfl⟩)
   unfold betX; rw [f16, hg24]
   rw [betW_eq v0 v1 v2 v3 v4 v5 v6 v7 v8 o3 o4 o5 o6 u0 u1 u2 u3 u4 u5 u6 u7 u8 oz3 oz4 oz5 oz6 f16 hg24]; rfl
 ·
  intro vs ls H32 E32 st hE
  have f33 : (markX [.int .i32 v0, .int .i32 v1, .int .i32 v2, .flt .f32 v3, .flt .f32 v4, .flt .f32 v5, .flt .f32 v6, .int .i64 v7, .int .i64 v8]) = false := bf st 0
  refine res_ex (by kernel_rfl) (end_flat st.inn hE (.inr rfl) (a := .bool false) (by kernel_rfl) (Grew.trans g13 (gk st)) rfl ⟨?_, rfl⟩)
  unfold betX; rw [f33]
  simp
theorem markArg {H : AHeap} {a : AV} (h : FitArg H (true, [.int .i32, .int .i32, .int .i32, .flt .f32, .flt .f32, .flt .f32, .flt .f32, .int .i64, .int .i64]) a) : ∃ (v0 v1 v2 : Int) (v3 v4 v5 v6 : Option Nat) (v7 v8 : Int), a = .agg [.int .i32 v0, .int .i32 v1, .int .i32 v2, .flt .f32 v3, .flt .f32 v4, .flt .f32 v5, .flt .f32 v6, .int .i64 v7, .int .i64 v8] ∧ fOk .f32 v3 ∧ fOk .f32 v4 ∧ fOk .f32 v5 ∧ fOk .f32 v6 := by
 obtain ⟨cs, rfl, hl, hc⟩ := h
 match cs, hl with
 | [c0, c1, c2, c3, c4, c5, c6, c7, c8], _ =>
  have h0 := hc 0 _ _ rfl rfl
  have h1 := hc 1 _ _ rfl rfl
  have h2 := hc 2 _ _ rfl rfl
  have h3 := hc 3 _ _ rfl rfl
  have h4 := hc 4 _ _ rfl rfl
  have h5 := hc 5 _ _ rfl rfl
  have h6 := hc 6 _ _ rfl rfl
  have h7 := hc 7 _ _ rfl rfl
  have h8 := hc 8 _ _ rfl rfl
  cases h0; cases h1; cases h2; cases h7; cases h8
  cases h3 with | flt h3 => cases h4 with | flt h4 => cases h5 with | flt h5 => cases h6 with | flt h6 =>
  exact ⟨_, _, _, _, _, _, _, _, _, rfl, h3, h4, h5, h6⟩
theorem lawExactBetterMark (H : AHeap) (vs : List AV) (h : FitArgs H [(true, [.int .i32, .int .i32, .int .i32, .flt .f32, .flt .f32, .flt .f32, .flt .f32, .int .i64, .int .i64]), (true, [.int .i32, .int .i32, .int .i32, .flt .f32, .flt .f32, .flt .f32, .flt .f32, .int .i64, .int .i64])] vs) : ACalls Try.prog 4 vs H fun r _ => r = .bool true := by
 match vs, h with
 | [a, b], h =>
 obtain ⟨v0, v1, v2, v3, v4, v5, v6, v7, v8, rfl, o3, o4, o5, o6⟩ := markArg h.1
 obtain ⟨u0, u1, u2, u3, u4, u5, u6, u7, u8, rfl, oz3, oz4, oz5, oz6⟩ := markArg h.2.1
 clear h
 refine res_start h_laws_FnExactBetterMark (by simp) ?_
 have q1 : KdsL [K2, K2, K2, KF, KF, KF, KF, KI, KI, K2, K2, K2, KF, KF, KF, KF, KI, KI, .bool] [.int .i32 v0, .int .i32 v1, .int .i32 v2, .flt .f32 v3, .flt .f32 v4, .flt .f32 v5, .flt .f32 v6, .int .i64 v7, .int .i64 v8, .int .i32 u0, .int .i32 u1, .int .i32 u2, .flt .f32 u3, .flt .f32 u4, .flt .f32 u5, .flt .f32 u6, .int .i64 u7, .int .i64 u8, .bool (betX [.int .i32 v0, .int .i32 v1, .int .i32 v2, .flt .f32 v3, .flt .f32 v4, .flt .f32 v5, .flt .f32 v6, .int .i64 v7, .int .i64 v8] [.int .i32 u0, .int .i32 u1, .int .i32 u2, .flt .f32 u3, .flt .f32 u4, .flt .f32 u5, .flt .f32 u6, .int .i64 u7, .int .i64 u8])] := .cons ⟨_, rfl⟩ (.cons ⟨_, rfl⟩ (.cons ⟨_, rfl⟩ (.cons ⟨_, rfl, o3⟩ (.cons ⟨_, rfl, o4⟩ (.cons ⟨_, rfl, o5⟩ (.cons ⟨_, rfl, o6⟩ (.cons ⟨_, rfl⟩ (.cons ⟨_, rfl⟩ (.cons ⟨_, rfl⟩ (.cons ⟨_, rfl⟩ (.cons ⟨_, rfl⟩ (.cons ⟨_, rfl, oz3⟩ (.cons ⟨_, rfl, oz4⟩ (.cons ⟨_, rfl, oz5⟩ (.cons ⟨_, rfl, oz6⟩ (.cons ⟨_, rfl⟩ (.cons ⟨_, rfl⟩ (.cons ⟨_, rfl⟩ .nil))))))))))))))))))
 refine run_mc (φ := φ0) (pm := pmR 0 [(.call 19 [.agg [n2 0, n2 1, n2 2, nF 3, nF 4, nF 5, nF 6, nI 7, nI 8]], .agg [n2 0, n2 1, n2 2, nF 3, nF 4, nF 5, nF 6, nI 7, nI 8]), (.call 19 [.agg [n2 9, n2 10, n2 11, nF 12, nF 13, nF 14, nF 15, nI 16, nI 17]], .agg [n2 9, n2 10, n2 11, nF 12, nF 13, nF 14, nF 15, nI 16, nI 17]), (.call 18 [.agg [n2 0, n2 1, n2 2, nF 3, nF 4, nF 5, nF 6, nI 7, nI 8], .agg [n2 9, n2 10, n2 11, nF 12, nF 13, nF 14, nF 15, nI 16, nI 17]], nB 18), (.call 20 [.agg [n2 0, n2 1, n2 2, nF 3, nF 4, nF 5, nF 6, nI 7, nI 8], .agg [n2 9, n2 10, n2 11, nF 12, nF 13, nF 14, nF 15, nI 16, nI 17]], nB 18)] 0) 20 (ws := []) (env := [(0, .agg [n2 0, n2 1, n2 2, nF 3, nF 4, nF 5, nF 6, nI 7, nI 8]), (1, .agg [n2 9, n2 10, n2 11, nF 12, nF 13, nF 14, nF 15, nI 16, nI 17])]) q1 .nil (sepOk_ro rfl) (.cons (rule_call (args := [.agg [.int .i32 v0, .int .i32 v1, .int .i32 v2, .flt .f32 v3, .flt .f32 v4, .flt .f32 v5, .flt .f32 v6, .int .i64 v7, .int .i64 v8]]) (dL q1) (dE q1) (fun H9 hk => k_toMark1 v0 v1 v2 v3 v4 v5 v6 v7 v8 o3 o4 o5 o6 H9)) (.cons (rule_call (args := [.agg [.int .i32 u0, .int .i32 u1, .int .i32 u2, .flt .f32 u3, .flt .f32 u4, .flt .f32 u5, .flt .f32 u6, .int .i64 u7, .int .i64 u8]]) (dL q1) (dE q1) (fun H9 hk => k_toMark1 u0 u1 u2 u3 u4 u5 u6 u7 u8 oz3 oz4 oz5 oz6 H9)) (.cons (rule_call (args := [.agg [.int .i32 v0, .int .i32 v1, .int .i32 v2, .flt .f32 v3, .flt .f32 v4, .flt .f32 v5, .flt .f32 v6, .int .i64 v7, .int .i64 v8], .agg [.int .i32 u0, .int .i32 u1, .int .i32 u2, .flt .f32 u3, .flt .f32 u4, .flt .f32 u5, .flt .f32 u6, .int .i64 u7, .int .i64 u8]]) (dL q1) (dE q1) (fun H9 hk => k_spec_BetterMark v0 v1 v2 v3 v4 v5 v6 v7 v8 o3 o4 o5 o6 u0 u1 u2 u3 u4 u5 u6 u7 u8 oz3 oz4 oz5 oz6 H9)) (.cons (rule_call (args := [.agg [.int .i32 v0, .int .i32 v1, .int .i32 v2, .flt .f32 v3, .flt .f32 v4, .flt .f32 v5, .flt .f32 v6, .int .i64 v7, .int .i64 v8], .agg [.int .i32 u0, .int .i32 u1, .int .i32 u2, .flt .f32 u3, .flt .f32 u4, .flt .f32 u5, .flt .f32 u6, .int .i64 u7, .int .i64 u8]]) (dL q1) (dE q1) (fun H9 hk => k_BetterMark v0 v1 v2 v3 v4 v5 v6 v7 v8 o3 o4 o5 o6 u0 u1 u2 u3 u4 u5 u6 u7 u8 oz3 oz4 oz5 oz6 H9)) .nil)))) (eC q1 (.cons (t := 0) rfl (.cons (t := 1) rfl .nil))) tb_ok ap_ok ?_
 refine all1 (by kernel_rfl) ?_
 intro vs ls H2 E2 st hE
 exact res_ex (by kernel_rfl) (end_same st.inn hE (.inr rfl) (a := .bool true) (by kernel_rfl) (Nat.le_trans (Nat.le_refl _) st.kept.1) rfl)
end Go.Proofs.Ytgjhjemmddojfaa
