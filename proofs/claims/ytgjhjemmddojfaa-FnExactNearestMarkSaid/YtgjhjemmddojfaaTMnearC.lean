/- Contracts: the nearest mark of a valid map, by both. -/
import Derived.Test.YtgjhjemmddojfaaTMnear
set_option linter.unusedVariables false
set_option linter.unusedSimpArgs false
namespace Go.Proofs.Ytgjhjemmddojfaa
open Go.Ab
set_option maxRecDepth 100000
set_option maxHeartbeats 1000000
attribute [local irreducible] Res
theorem nearM_nf {x : Option Nat} {ms : List (List AV)} {a b c g : Option Nat} (h : okMap x ms = true) : nearestF x ms a b c g = if (nearM x ms a b c g).2 = 0 then (ms.getD (nearM x ms a b c g).1.toNat [], 0) else (zeroM, (nearM x ms a b c g).2) := by
 unfold nearestF nearM
 rw [if_pos h]
 split
 ·
  split
  ·
   rfl
  ·
   rfl
 ·
  rfl
theorem nearM_rng {x : Option Nat} {ms : List (List AV)} {a b c g : Option Nat} : (nearM x ms a b c g).2 = 0 → 0 ≤ (nearM x ms a b c g).1 ∧ (nearM x ms a b c g).1 < ms.length := by
 have h := nearI_rng x ms a b c g
 unfold nearM
 split
 ·
  split
  ·
   intro h; cases h
  ·
   intro _
   refine ⟨?_, h.2⟩
   show 0 ≤ (nearI x ms a b c g).1; omega
 ·
  rename_i h2
  intro h3; exact absurd h3 h2
theorem k_impl_NearestMark (H : AHeap) (x : Option Nat) (hx : fOk .f32 x) (ms : List (List AV)) (hr : Recs KM ms) (S : AV) (hS : SlL H 9 ms S) (mxms : ms.length ≤ 1048576) (a b c : Option Nat) (ha : fOk .f32 a) (hb : fOk .f32 b) (hc : fOk .f32 c) (g : Option Nat) (hg : fOk .f32 g) : APure Try.prog 52 [.agg [.flt .f32 x, S], .agg [.flt .f32 a, .flt .f32 b, .flt .f32 c], .flt .f32 g] H (.tuple [.agg (nearestF x ms a b c g).1, .int .i64 (nearestF x ms a b c g).2]) := by
 obtain ⟨ni, nc, hni⟩ : ∃ ni nc, nearM x ms a b c g = (ni, nc) := ⟨_, _, rfl⟩
 have hrng : nc = 0 → 0 ≤ ni ∧ ni < ms.length := by have h := nearM_rng (x := x) (ms := ms) (a := a) (b := b) (c := c) (g := g); rw [hni] at h; exact h
 refine res_start h_impl_NearestMark (by simp) ?_
 have q1 : KdsL [KF, .one, KF, KF, KF, KF, KI, KI, .bool] [.flt .f32 x, S, .flt .f32 a, .flt .f32 b, .flt .f32 c, .flt .f32 g, .int .i64 ni, .int .i64 nc, .bool (okMap x ms)] := .cons ⟨_, rfl, hx⟩ (.cons (slOne hS) (.cons ⟨_, rfl, ha⟩ (.cons ⟨_, rfl, hb⟩ (.cons ⟨_, rfl, hc⟩ (.cons ⟨_, rfl, hg⟩ (.cons ⟨_, rfl⟩ (.cons ⟨_, rfl⟩ (.cons ⟨_, rfl⟩ .nil))))))))
 refine run_mc (φ := φ0) (pm := pmR 0 [(.call 35 [.agg [nF 0, n1 1]], nB 8)] 0) 20 (ws := []) (env := [(0, .agg [nF 0, n1 1]), (1, .agg [nF 2, nF 3, nF 4]), (2, nF 5)]) q1 .nil (sepOk_ro rfl) (.cons (rule_call (args := [.agg [.flt .f32 x, S]]) (dL q1) (dE q1) (fun H9 hk => k_impl_ValidMap H9 x hx S ms hr (hS.grew (Grew.trans (Grew.refl _) (hk.grew (Nat.le_refl _)))) (mx40 mxms))) .nil) (eC q1 (.cons (t := 0) rfl (.cons (t := 1) rfl (.cons (t := 2) rfl .nil)))) tb_ok ap_ok ?_
 refine all2 (by kernel_rfl) ?_ ?_
 ·
  intro vs ls H2 E2 st hE
  have f3 : (okMap x ms) = false := bf st 0
  refine res_ex (by kernel_rfl) (end_flat st.inn hE (.inr rfl) (a := .tuple [.agg [.int .i32 0, .int .i32 0, .int .i32 0, .flt .f32 (some 0), .flt .f32 (some 0), .flt .f32 (some 0), .flt .f32 (some 0), .int .i64 0, .int .i64 0], .int .i64 1]) (by kernel_rfl) (Grew.trans (Grew.refl _) (gk st)) rfl ⟨?_, rfl⟩)
  unfold nearestF; rw [if_neg (by rw [f3]; decide)]; rfl
 ·
  intro vs ls H4 E4 st hE
  have f5 : (okMap x ms) = true := bf st 0
  obtain ⟨p6, e7, r8, n9⟩ := ptr_of st.inn hE 6 2 (by kernel_rfl) (ds := [.int .i32 0, .int .i32 0, .int .i32 0, .flt .f32 (some 0), .flt .f32 (some 0), .flt .f32 (some 0), .flt .f32 (some 0), .int .i64 0, .int .i64 0]) (by kernel_rfl)
  have op6 : H.next ≤ p6 := Nat.le_trans (Nat.le_refl _) (n9 (Nat.le_of_ble_eq_true rfl))
  obtain ⟨p10, e11, r12, n13⟩ := ptr_of st.inn hE 3 0 (by kernel_rfl) (ds := [.flt .f32 x, S]) (by kernel_rfl)
  have op10 : H.next ≤ p10 := Nat.le_trans (Nat.le_refl _) (n13 (Nat.le_of_ble_eq_true rfl))
  have ne14 : Apart p6 p10 := ⟨ptr_ne st.inn hE 6 2 3 0 (by kernel_rfl) (by kernel_rfl) (cs := [.lit (.int .i32 0), .lit (.int .i32 0), .lit (.int .i32 0), .lit (.flt .f32 (some 0)), .lit (.flt .f32 (some 0)), .lit (.flt .f32 (some 0)), .lit (.flt .f32 (some 0)), .lit (.int .i64 0), .lit (.int .i64 0)]) (by kernel_rfl) (by decide) e7 e11⟩
  have b15 := eo st hE 15 (.agg [.flt .f32 x, S])
  have b16 := eo st hE 16 (.agg [.flt .f32 a, .flt .f32 b, .flt .f32 c])
  have b17 := eo st hE 17 (.flt .f32 g)
  have g18 : Grew H H4 := (gk st)
  have g19 : Grew H H4 := Grew.trans (Grew.refl _) g18
  clear st hE vs ls
  refine res_call (d := (some 18)) (f := 90) (args := [.tmp 15, .tmp 16, .tmp 17]) (by kernel_rfl) (R := fun z H' => z = .tuple [.int .i64 ni, .int .i64 nc] ∧ H' = H4) ?_ ?_
  ·
   show ACalls _ _ [E4 15, E4 16, E4 17] _ _
   rw [b15, b16, b17]
   exact (by have h := k_nearestMark H4 x hx ms hr S (hS.grew g19) mxms a b c ha hb hc g hg; rw [hni] at h; exact h)
  rintro z H4 ⟨rfl, rfl⟩
  refine run_mc (φ := φ0) (pm := pmR 1 [] 0) 20 (ws := [⟨p10, 0, [nF 0, n1 1], false⟩, ⟨p6, 0, [.lit (.int .i32 0), .lit (.int .i32 0), .lit (.int .i32 0), .lit (.flt .f32 (some 0)), .lit (.flt .f32 (some 0)), .lit (.flt .f32 (some 0)), .lit (.flt .f32 (some 0)), .lit (.int .i64 0), .lit (.int .i64 0)], true⟩]) (env := [(15, .agg [nF 0, n1 1]), (16, .agg [nF 2, nF 3, nF 4]), (17, nF 5), (6, .ptr 1 0), (3, .ptr 0 0), (18, .tup [nI 6, nI 7])]) q1 (.cons (wR r12 q1) (.cons (wO r8 q1) .nil)) (sepD (by repeat (first | exact .nil | refine .cons (by first | assumption | exact Apart.symm (by assumption)) ?_))) .nil (eC q1 (.cons (put_ne rfl b15) (.cons (put_ne rfl b16) (.cons (put_ne rfl b17) (.cons (put_ne rfl e7) (.cons (put_ne rfl e11) (.cons put_same .nil))))))) tb_ok ap_ok ?_
  refine all2 (by kernel_rfl) ?_ ?_
  ·
   intro vs ls H21 E21 st hE
   have f22 : ¬ (nc = 0) := df st 0
   refine res_ex (by kernel_rfl) (end_flat st.inn hE (.inr rfl) (a := .tuple [.agg [.int .i32 0, .int .i32 0, .int .i32 0, .flt .f32 (some 0), .flt .f32 (some 0), .flt .f32 (some 0), .flt .f32 (some 0), .int .i64 0, .int .i64 0], .int .i64 nc]) (by kernel_rfl) (grew_own g19 (st.inn.kept) ⟨op6, trivial⟩) rfl ⟨?_, rfl⟩)
   rw [nearM_nf f5, hni]
   show _ = AV.tuple [.agg (if nc = 0 then (ms.getD ni.toNat [], (0 : Int)) else (zeroM, nc)).1, .int .i64 (if nc = 0 then (ms.getD ni.toNat [], (0 : Int)) else (zeroM, nc)).2]; rw [if_neg f22]; rfl
  ·
   intro vs ls H23 E23 st hE
   have f24 : nc = 0 := dt st 0
   have b25 := eo st hE 26 S
   have b26 := eo st hE 27 (.int .i64 ni)
   have b27 := eo st hE 6 (.ptr p6 0)
   have g28 : Grew H4 H23 := (gk st)
   have g29 : Grew H H23 := Grew.trans g19 g28
   have r31 := g28.at r8
   clear st hE vs ls
   obtain ⟨k32, rfl⟩ : ∃ k : Nat, ni = (k : Int) := ⟨Int.toNat ni, by omega⟩
   have hlt33 : k32 < ms.length := by omega
   obtain ⟨lS33, cap33, rest33, wr33, eS33, gB33⟩ := hS.isSl hlt33
   have gS33 := g29.at gB33
   have ne34 := apn gB33 op6
   obtain ⟨v33_0, v33_1, v33_2, v33_3, v33_4, v33_5, v33_6, v33_7, v33_8, hm33, ho33_3, ho33_4, ho33_5, ho33_6⟩ := partsMark (hr.get hlt33)
   have he33 : ms.getD k32 [] = [.int .i32 v33_0, .int .i32 v33_1, .int .i32 v33_2, .flt .f32 v33_3, .flt .f32 v33_4, .flt .f32 v33_5, .flt .f32 v33_6, .int .i64 v33_7, .int .i64 v33_8] := by rw [← hm33, List.getD_eq_getElem?_getD, List.getElem?_eq_getElem hlt33]; rfl
   have q35 : KdsL [KF, .one, KF, KF, KF, KF, KI, KI, .bool, K2, K2, K2, KF, KF, KF, KF, KI, KI] [.flt .f32 x, S, .flt .f32 a, .flt .f32 b, .flt .f32 c, .flt .f32 g, .int .i64 (k32 : Int), .int .i64 nc, .bool (okMap x ms), .int .i32 v33_0, .int .i32 v33_1, .int .i32 v33_2, .flt .f32 v33_3, .flt .f32 v33_4, .flt .f32 v33_5, .flt .f32 v33_6, .int .i64 v33_7, .int .i64 v33_8] := .cons ⟨_, rfl, hx⟩ (.cons (slOne hS) (.cons ⟨_, rfl, ha⟩ (.cons ⟨_, rfl, hb⟩ (.cons ⟨_, rfl, hc⟩ (.cons ⟨_, rfl, hg⟩ (.cons ⟨_, rfl⟩ (.cons ⟨_, rfl⟩ (.cons ⟨_, rfl⟩ (.cons ⟨_, rfl⟩ (.cons ⟨_, rfl⟩ (.cons ⟨_, rfl⟩ (.cons ⟨_, rfl, ho33_3⟩ (.cons ⟨_, rfl, ho33_4⟩ (.cons ⟨_, rfl, ho33_5⟩ (.cons ⟨_, rfl, ho33_6⟩ (.cons ⟨_, rfl⟩ (.cons ⟨_, rfl⟩ .nil)))))))))))))))))
   refine run_mc (φ := φ0) (pm := pmR 1 [(.ia 9 (n1 1) (nI 6), .ptr 0 0)] 0) 20 (ws := [⟨lS33, (k32 * 9), [n2 9, n2 10, n2 11, nF 12, nF 13, nF 14, nF 15, nI 16, nI 17], false⟩, ⟨p6, 0, [.lit (.int .i32 0), .lit (.int .i32 0), .lit (.int .i32 0), .lit (.flt .f32 (some 0)), .lit (.flt .f32 (some 0)), .lit (.flt .f32 (some 0)), .lit (.flt .f32 (some 0)), .lit (.int .i64 0), .lit (.int .i64 0)], true⟩]) (env := [(26, n1 1), (27, nI 6), (6, .ptr 1 0)]) q35 (.cons (win_elem hr gS33 hlt33 rfl (by rw [hm33]; exact (dL q35))) (.cons (wO r31 q35) .nil)) (sepD (by repeat (first | exact .nil | refine .cons (by first | assumption | exact Apart.symm (by assumption)) ?_))) (.cons (rule_iaS (k := k32) (dE q35) eS33 (dE q35) hlt33 rfl) .nil) (eC q35 (.cons b25 (.cons b26 (.cons b27 .nil)))) tb_ok ap_ok ?_
   refine all1 (by kernel_rfl) ?_
   intro vs ls H36 E36 st hE
   refine res_ex (by kernel_rfl) (end_flat st.inn hE (.inr rfl) (a := .tuple [.agg [.int .i32 v33_0, .int .i32 v33_1, .int .i32 v33_2, .flt .f32 v33_3, .flt .f32 v33_4, .flt .f32 v33_5, .flt .f32 v33_6, .int .i64 v33_7, .int .i64 v33_8], .int .i64 0]) (by kernel_rfl) (grew_own g29 (st.inn.kept) ⟨op6, trivial⟩) rfl ⟨?_, rfl⟩)
   rw [nearM_nf f5, hni]
   show _ = AV.tuple [.agg (if nc = 0 then (ms.getD (k32 : Int).toNat [], (0 : Int)) else (zeroM, nc)).1, .int .i64 (if nc = 0 then (ms.getD (k32 : Int).toNat [], (0 : Int)) else (zeroM, nc)).2]; rw [if_pos f24, show ((k32 : Nat) : Int).toNat = k32 from rfl, he33]
theorem k_spec_NearestMark (H : AHeap) (x : Option Nat) (hx : fOk .f32 x) (ms : List (List AV)) (hr : Recs KM ms) (S : AV) (hS : SlL H 9 ms S) (mxms : ms.length ≤ 1048576) (a b c : Option Nat) (ha : fOk .f32 a) (hb : fOk .f32 b) (hc : fOk .f32 c) (g : Option Nat) (hg : fOk .f32 g) : APure Try.prog 51 [.agg [.flt .f32 x, S], .agg [.flt .f32 a, .flt .f32 b, .flt .f32 c], .flt .f32 g] H (.tuple [.agg (nearestF x ms a b c g).1, .int .i64 (nearestF x ms a b c g).2]) := by
 obtain ⟨ni, nc, hni⟩ : ∃ ni nc, nearI x ms a b c g = (ni, nc) := ⟨_, _, rfl⟩
 have hrng : -1 ≤ ni ∧ ni < ms.length := by have h := nearI_rng x ms a b c g; rw [hni] at h; exact h
 refine res_start h_spec_NearestMark (by simp) ?_
 have q1 : KdsL [KF, .one, KF, KF, KF, KF, KI, KI] [.flt .f32 x, S, .flt .f32 a, .flt .f32 b, .flt .f32 c, .flt .f32 g, .int .i64 ni, .int .i64 nc] := .cons ⟨_, rfl, hx⟩ (.cons (slOne hS) (.cons ⟨_, rfl, ha⟩ (.cons ⟨_, rfl, hb⟩ (.cons ⟨_, rfl, hc⟩ (.cons ⟨_, rfl, hg⟩ (.cons ⟨_, rfl⟩ (.cons ⟨_, rfl⟩ .nil)))))))
 refine run_mc (φ := φ0) (pm := pmR 0 [] 0) 20 (ws := []) (env := [(0, .agg [nF 0, n1 1]), (1, .agg [nF 2, nF 3, nF 4]), (2, nF 5)]) q1 .nil (sepOk_ro rfl) .nil (eC q1 (.cons (t := 0) rfl (.cons (t := 1) rfl (.cons (t := 2) rfl .nil)))) tb_ok ap_ok ?_
 refine all1 (by kernel_rfl) ?_
 intro vs ls H2 E2 st hE
 obtain ⟨p3, e4, r5, n6⟩ := ptr_of st.inn hE 3 0 (by kernel_rfl) (ds := [.flt .f32 x, S]) (by kernel_rfl)
 have op3 : H.next ≤ p3 := Nat.le_trans (Nat.le_refl _) (n6 (Nat.le_of_ble_eq_true rfl))
 obtain ⟨p7, e8, r9, n10⟩ := ptr_of st.inn hE 6 2 (by kernel_rfl) (ds := [.int .i32 0, .int .i32 0, .int .i32 0, .flt .f32 (some 0), .flt .f32 (some 0), .flt .f32 (some 0), .flt .f32 (some 0), .int .i64 0, .int .i64 0]) (by kernel_rfl)
 have op7 : H.next ≤ p7 := Nat.le_trans (Nat.le_refl _) (n10 (Nat.le_of_ble_eq_true rfl))
 obtain ⟨p11, e12, r13, n14⟩ := ptr_of st.inn hE 4 1 (by kernel_rfl) (ds := [.flt .f32 a, .flt .f32 b, .flt .f32 c]) (by kernel_rfl)
 have op11 : H.next ≤ p11 := Nat.le_trans (Nat.le_refl _) (n14 (Nat.le_of_ble_eq_true rfl))
 have ne15 : Apart p3 p7 := ⟨ptr_ne st.inn hE 3 0 6 2 (by kernel_rfl) (by kernel_rfl) (cs := [.nd 0 (.flt .f32), .nd 1 .one]) (by kernel_rfl) (by decide) e4 e8⟩
 have ne16 : Apart p3 p11 := ⟨ptr_ne st.inn hE 3 0 4 1 (by kernel_rfl) (by kernel_rfl) (cs := [.nd 0 (.flt .f32), .nd 1 .one]) (by kernel_rfl) (by decide) e4 e12⟩
 have ne17 : Apart p7 p11 := ⟨ptr_ne st.inn hE 6 2 4 1 (by kernel_rfl) (by kernel_rfl) (cs := [.lit (.int .i32 0), .lit (.int .i32 0), .lit (.int .i32 0), .lit (.flt .f32 (some 0)), .lit (.flt .f32 (some 0)), .lit (.flt .f32 (some 0)), .lit (.flt .f32 (some 0)), .lit (.int .i64 0), .lit (.int .i64 0)]) (by kernel_rfl) (by decide) e8 e12⟩
 have b18 := eo st hE 2 (.flt .f32 g)
 have g19 : Grew H H2 := (gk st)
 have g20 : Grew H H2 := Grew.trans (Grew.refl _) g19
 clear st hE vs ls
 refine res_call (d := (some 10)) (f := 72) (args := [.tmp 3]) (by kernel_rfl) (R := fun z H' => z = .bool (okMap x ms) ∧ H' = H2) ?_ ?_
 ·
  show ACalls _ _ [E2 3] _ _
  rw [e4]
  exact k_l05Ok H2 p3 x hx S true ms hr r5 (hS.grew g20) (mx40 mxms)
 rintro z H2 ⟨rfl, rfl⟩
 have q21 := q1.app (.cons ⟨_, rfl⟩ .nil : KdsL [.bool] [.bool (okMap x ms)])
 refine run_mc (φ := φ0) (pm := pmR 2 [] 0) 20 (ws := [⟨p3, 0, [nF 0, n1 1], false⟩, ⟨p11, 0, [nF 2, nF 3, nF 4], false⟩, ⟨p7, 0, [.lit (.int .i32 0), .lit (.int .i32 0), .lit (.int .i32 0), .lit (.flt .f32 (some 0)), .lit (.flt .f32 (some 0)), .lit (.flt .f32 (some 0)), .lit (.flt .f32 (some 0)), .lit (.int .i64 0), .lit (.int .i64 0)], true⟩]) (env := [(3, .ptr 0 0), (6, .ptr 2 0), (4, .ptr 1 0), (2, nF 5), (10, nB 8)]) q21 (.cons (wR r5 q21) (.cons (wR r13 q21) (.cons (wO r9 q21) .nil))) (sepD (by repeat (first | exact .nil | refine .cons (by first | assumption | exact Apart.symm (by assumption)) ?_))) .nil (eC q21 (.cons (put_ne rfl e4) (.cons (put_ne rfl e8) (.cons (put_ne rfl e12) (.cons (put_ne rfl b18) (.cons put_same .nil)))))) tb_ok ap_ok ?_
 refine all2 (by kernel_rfl) ?_ ?_
 ·
  intro vs ls H22 E22 st hE
  have f23 : (okMap x ms) = false := bf st 0
  refine res_ex (by kernel_rfl) (end_flat st.inn hE (.inr rfl) (a := .tuple [.agg [.int .i32 0, .int .i32 0, .int .i32 0, .flt .f32 (some 0), .flt .f32 (some 0), .flt .f32 (some 0), .flt .f32 (some 0), .int .i64 0, .int .i64 0], .int .i64 1]) (by kernel_rfl) (grew_own g20 (st.inn.kept) ⟨op7, trivial⟩) rfl ⟨?_, rfl⟩)
  unfold nearestF; rw [if_neg (by rw [f23]; decide)]; rfl
 ·
  intro vs ls H24 E24 st hE
  have f25 : (okMap x ms) = true := bf st 0
  have b26 := eo st hE 3 (.ptr p3 0)
  have b27 := eo st hE 14 (.agg [.flt .f32 a, .flt .f32 b, .flt .f32 c])
  have b28 := eo st hE 15 (.flt .f32 g)
  have b29 := eo st hE 6 (.ptr p7 0)
  have g30 : Grew H2 H24 := (gk st)
  have g31 : Grew H H24 := Grew.trans g20 g30
  have r32 := g30.at r5
  have r34 := g30.at r9
  clear st hE vs ls
  refine res_call (d := (some 16)) (f := 89) (args := [.tmp 3, .tmp 14, .tmp 15]) (by kernel_rfl) (R := fun z H' => z = .tuple [.int .i64 ni, .int .i64 nc] ∧ H' = H24) ?_ ?_
  ·
   show ACalls _ _ [E24 3, E24 14, E24 15] _ _
   rw [b26, b27, b28]
   exact (by have h := k_l05Nearest H24 x hx ms hr S (hS.grew g31) mxms a b c ha hb hc g hg p3 r32; rw [hni] at h; exact h)
  rintro z H24 ⟨rfl, rfl⟩
  refine run_mc (φ := φ0) (pm := pmR 1 [] 0) 20 (ws := [⟨p3, 0, [nF 0, n1 1], false⟩, ⟨p7, 0, [.lit (.int .i32 0), .lit (.int .i32 0), .lit (.int .i32 0), .lit (.flt .f32 (some 0)), .lit (.flt .f32 (some 0)), .lit (.flt .f32 (some 0)), .lit (.flt .f32 (some 0)), .lit (.int .i64 0), .lit (.int .i64 0)], true⟩]) (env := [(3, .ptr 0 0), (14, .agg [nF 2, nF 3, nF 4]), (15, nF 5), (6, .ptr 1 0), (16, .tup [nI 6, nI 7])]) q21 (.cons (wR r32 q21) (.cons (wO r34 q21) .nil)) (sepD (by repeat (first | exact .nil | refine .cons (by first | assumption | exact Apart.symm (by assumption)) ?_))) .nil (eC q21 (.cons (put_ne rfl b26) (.cons (put_ne rfl b27) (.cons (put_ne rfl b28) (.cons (put_ne rfl b29) (.cons put_same .nil)))))) tb_ok ap_ok ?_
  refine all3 (by kernel_rfl) ?_ ?_ ?_
  ·
   intro vs ls H36 E36 st hE
   have f37 : ¬ (nc = 0) := df st 0
   refine res_ex (by kernel_rfl) (end_flat st.inn hE (.inr rfl) (a := .tuple [.agg [.int .i32 0, .int .i32 0, .int .i32 0, .flt .f32 (some 0), .flt .f32 (some 0), .flt .f32 (some 0), .flt .f32 (some 0), .int .i64 0, .int .i64 0], .int .i64 nc]) (by kernel_rfl) (grew_own g31 (st.inn.kept) ⟨op7, trivial⟩) rfl ⟨?_, rfl⟩)
   unfold nearestF; rw [if_pos f25, hni]
   show _ = AV.tuple [.agg (if nc = 0 then _ else (zeroM, nc)).1, .int .i64 (if nc = 0 then _ else (zeroM, nc)).2]; rw [if_neg f37]; rfl
  ·
   intro vs ls H38 E38 st hE
   have f39 : ni < 0 := dt st 0
   have f40 : nc = 0 := dt st 1
   refine res_ex (by kernel_rfl) (end_flat st.inn hE (.inr rfl) (a := .tuple [.agg [.int .i32 0, .int .i32 0, .int .i32 0, .flt .f32 (some 0), .flt .f32 (some 0), .flt .f32 (some 0), .flt .f32 (some 0), .int .i64 0, .int .i64 0], .int .i64 6]) (by kernel_rfl) (grew_own g31 (st.inn.kept) ⟨op7, trivial⟩) rfl ⟨?_, rfl⟩)
   unfold nearestF; rw [if_pos f25, hni]
   show _ = AV.tuple [.agg (if nc = 0 then (if ni < 0 then (zeroM, (6 : Int)) else (ms.getD ni.toNat [], (0 : Int))) else (zeroM, nc)).1, .int .i64 (if nc = 0 then (if ni < 0 then (zeroM, (6 : Int)) else (ms.getD ni.toNat [], (0 : Int))) else (zeroM, nc)).2]; rw [if_pos f40, if_pos f39]; rfl
  ·
   intro vs ls H41 E41 st hE
   have f42 : ¬ (ni < 0) := df st 0
   have f43 : nc = 0 := dt st 1
   have b44 := eo st hE 27 S
   have b45 := eo st hE 28 (.int .i64 ni)
   have b46 := eo st hE 6 (.ptr p7 0)
   have g47 : Grew H24 H41 := (gk st)
   have g48 : Grew H H41 := Grew.trans g31 g47
   have r50 := g47.at r34
   clear st hE vs ls
   obtain ⟨k51, rfl⟩ : ∃ k : Nat, ni = (k : Int) := ⟨Int.toNat ni, by omega⟩
   have hlt52 : k51 < ms.length := by omega
   obtain ⟨lS52, cap52, rest52, wr52, eS52, gB52⟩ := hS.isSl hlt52
   have gS52 := g48.at gB52
   have ne53 := apn gB52 op7
   obtain ⟨v52_0, v52_1, v52_2, v52_3, v52_4, v52_5, v52_6, v52_7, v52_8, hm52, ho52_3, ho52_4, ho52_5, ho52_6⟩ := partsMark (hr.get hlt52)
   have he52 : ms.getD k51 [] = [.int .i32 v52_0, .int .i32 v52_1, .int .i32 v52_2, .flt .f32 v52_3, .flt .f32 v52_4, .flt .f32 v52_5, .flt .f32 v52_6, .int .i64 v52_7, .int .i64 v52_8] := by rw [← hm52, List.getD_eq_getElem?_getD, List.getElem?_eq_getElem hlt52]; rfl
   have q54 : KdsL [KF, .one, KF, KF, KF, KF, KI, KI, .bool, K2, K2, K2, KF, KF, KF, KF, KI, KI] [.flt .f32 x, S, .flt .f32 a, .flt .f32 b, .flt .f32 c, .flt .f32 g, .int .i64 (k51 : Int), .int .i64 nc, .bool (okMap x ms), .int .i32 v52_0, .int .i32 v52_1, .int .i32 v52_2, .flt .f32 v52_3, .flt .f32 v52_4, .flt .f32 v52_5, .flt .f32 v52_6, .int .i64 v52_7, .int .i64 v52_8] := .cons ⟨_, rfl, hx⟩ (.cons (slOne hS) (.cons ⟨_, rfl, ha⟩ (.cons ⟨_, rfl, hb⟩ (.cons ⟨_, rfl, hc⟩ (.cons ⟨_, rfl, hg⟩ (.cons ⟨_, rfl⟩ (.cons ⟨_, rfl⟩ (.cons ⟨_, rfl⟩ (.cons ⟨_, rfl⟩ (.cons ⟨_, rfl⟩ (.cons ⟨_, rfl⟩ (.cons ⟨_, rfl, ho52_3⟩ (.cons ⟨_, rfl, ho52_4⟩ (.cons ⟨_, rfl, ho52_5⟩ (.cons ⟨_, rfl, ho52_6⟩ (.cons ⟨_, rfl⟩ (.cons ⟨_, rfl⟩ .nil)))))))))))))))))
   refine run_mc (φ := φ0) (pm := pmR 1 [(.ia 9 (n1 1) (nI 6), .ptr 0 0)] 0) 20 (ws := [⟨lS52, (k51 * 9), [n2 9, n2 10, n2 11, nF 12, nF 13, nF 14, nF 15, nI 16, nI 17], false⟩, ⟨p7, 0, [.lit (.int .i32 0), .lit (.int .i32 0), .lit (.int .i32 0), .lit (.flt .f32 (some 0)), .lit (.flt .f32 (some 0)), .lit (.flt .f32 (some 0)), .lit (.flt .f32 (some 0)), .lit (.int .i64 0), .lit (.int .i64 0)], true⟩]) (env := [(27, n1 1), (28, nI 6), (6, .ptr 1 0)]) q54 (.cons (win_elem hr gS52 hlt52 rfl (by rw [hm52]; exact (dL q54))) (.cons (wO r50 q54) .nil)) (sepD (by repeat (first | exact .nil | refine .cons (by first | assumption | exact Apart.symm (by assumption)) ?_))) (.cons (rule_iaS (k := k51) (dE q54) eS52 (dE q54) hlt52 rfl) .nil) (eC q54 (.cons b44 (.cons b45 (.cons b46 .nil)))) tb_ok ap_ok ?_
   refine all1 (by kernel_rfl) ?_
   intro vs ls H55 E55 st hE
   refine res_ex (by kernel_rfl) (end_flat st.inn hE (.inr rfl) (a := .tuple [.agg [.int .i32 v52_0, .int .i32 v52_1, .int .i32 v52_2, .flt .f32 v52_3, .flt .f32 v52_4, .flt .f32 v52_5, .flt .f32 v52_6, .int .i64 v52_7, .int .i64 v52_8], .int .i64 0]) (by kernel_rfl) (grew_own g48 (st.inn.kept) ⟨op7, trivial⟩) rfl ⟨?_, rfl⟩)
   unfold nearestF; rw [if_pos f25, hni]
   show _ = AV.tuple [.agg (if nc = 0 then (if (k51 : Int) < 0 then (zeroM, (6 : Int)) else (ms.getD (k51 : Int).toNat [], (0 : Int))) else (zeroM, nc)).1, .int .i64 (if nc = 0 then (if (k51 : Int) < 0 then (zeroM, (6 : Int)) else (ms.getD (k51 : Int).toNat [], (0 : Int))) else (zeroM, nc)).2]; rw [if_pos f43, if_neg (by omega), show ((k51 : Nat) : Int).toNat = k51 from rfl, he52]
end Go.Proofs.Ytgjhjemmddojfaa
