/- Contracts: what links are off, and costs. -/
import Derived.Test.YtcmoeocemmeofaaTPoseB
import Derived.Test.YtcmoeocemmeofaaTGraphF
import Derived.Test.YtcmoeocemmeofaaSxD
set_option linter.unusedVariables false
set_option linter.unusedSimpArgs false
namespace Go.Proofs.Ytcmoeocemmeofaa
open Go.Ab
set_option maxRecDepth 100000
set_option maxHeartbeats 1000000
attribute [local irreducible] Res
theorem allB_get {p : Nat → Bool} {n : Nat} (h : allB p n = true) : ∀ i, i < n → p i = true := by
 intro i hi
 cases hp : p i with
 | true => rfl
 | false => rw [allB_at hi hp] at h; cases h
theorem okG_link {ms ks : List (List AV)} (h : okG ms ks = true) (hr : Recs KL ks) (k : Nat) (hk : k < ks.length) : LinkV ms.length ks[k] := by
 unfold okG at h
 simp only [Bool.and_eq_true] at h
 have h1 := allB_get h.2.2 k hk
 obtain ⟨a, b, x, y, z, w, hm, ox, oy, oz, ow⟩ := partsLink (hr.get hk)
 have e : ks.getD k [] = ks[k] := by simp [List.getD_eq_getElem?_getD, hk]
 rw [e, hm] at h1
 unfold okK at h1
 simp only [Bool.and_eq_true, decide_eq_true_eq] at h1
 obtain ⟨⟨b1, b2, b3, b4, b5⟩, _⟩ := h1
 refine ⟨a.toNat, b.toNat, x, y, z, w, ?_, ox, oy, oz, ow, by omega, by omega, by omega⟩
 rw [hm, Int.toNat_of_nonneg b1, Int.toNat_of_nonneg b3]
theorem okG_len {ms ks : List (List AV)} (h : okG ms ks = true) : 1 ≤ ms.length ∧ ms.length ≤ 60 ∧ ks.length ≤ 120 := by
 unfold okG at h
 simp only [Bool.and_eq_true, decide_eq_true_eq] at h
 exact h.1
theorem k_residual (H : AHeap) (ms : List (List AV)) (hr : Recs KP ms) (S : AV) (hS : SlL H 3 ms S) (hmx : ms.length < 2 ^ 40) (Sk : AV) (hSk : Sk.one = true) (a b : Nat) (ha : a < ms.length) (hb : b < ms.length) (x y z u : Option Nat) (ox : fOk .f32 x) (oy : fOk .f32 y) (oz : fOk .f32 z) (ou : fOk .f32 u) : APure Try.prog 66 [.agg [S, Sk], .agg [.int .i64 (a : Int), .int .i64 (b : Int), .flt .f32 x, .flt .f32 y, .flt .f32 z, .flt .f32 u]] H (.agg (offF ms a b [.flt .f32 x, .flt .f32 y, .flt .f32 z])) := by
 refine res_start h_impl_PoseGraph_residual (by simp) ?_
 have q1 : KdsL [.one, .one, KI, KI, KF, KF, KF, KF] [S, Sk, .int .i64 (a : Int), .int .i64 (b : Int), .flt .f32 x, .flt .f32 y, .flt .f32 z, .flt .f32 u] := .cons (slOne hS) (.cons hSk (.cons ⟨_, rfl⟩ (.cons ⟨_, rfl⟩ (.cons ⟨_, rfl, ox⟩ (.cons ⟨_, rfl, oy⟩ (.cons ⟨_, rfl, oz⟩ (.cons ⟨_, rfl, ou⟩ .nil)))))))
 refine run_mc (φ := φ0) (pm := pmR 0 [] 0) 20 (ws := []) (env := [(0, .agg [n1 0, n1 1]), (1, .agg [nI 2, nI 3, nF 4, nF 5, nF 6, nF 7])]) q1 .nil (sepOk_ro rfl) .nil (eC q1 (.cons (t := 0) rfl (.cons (t := 1) rfl .nil))) tb_ok ap_ok ?_
 refine all1 (by kernel_rfl) ?_
 intro vs ls H2 E2 st hE
 obtain ⟨p3, e4, r5, n6⟩ := ptr_of st.inn hE 2 0 (by kernel_rfl) (ds := [S, Sk]) (by kernel_rfl)
 have op3 : H.next ≤ p3 := Nat.le_trans (Nat.le_refl _) (n6 (Nat.le_of_ble_eq_true rfl))
 obtain ⟨p7, e8, r9, n10⟩ := ptr_of st.inn hE 3 1 (by kernel_rfl) (ds := [.int .i64 (a : Int), .int .i64 (b : Int), .flt .f32 x, .flt .f32 y, .flt .f32 z, .flt .f32 u]) (by kernel_rfl)
 have op7 : H.next ≤ p7 := Nat.le_trans (Nat.le_refl _) (n10 (Nat.le_of_ble_eq_true rfl))
 obtain ⟨p11, e12, r13, n14⟩ := ptr_of st.inn hE 4 2 (by kernel_rfl) (ds := [.flt .f32 (some 0), .flt .f32 (some 0), .flt .f32 (some 0)]) (by kernel_rfl)
 have op11 : H.next ≤ p11 := Nat.le_trans (Nat.le_refl _) (n14 (Nat.le_of_ble_eq_true rfl))
 have ne15 : Apart p3 p7 := ⟨ptr_ne st.inn hE 2 0 3 1 (by kernel_rfl) (by kernel_rfl) (cs := [.nd 0 .one, .nd 1 .one]) (by kernel_rfl) (by decide) e4 e8⟩
 have ne16 : Apart p3 p11 := ⟨ptr_ne st.inn hE 2 0 4 2 (by kernel_rfl) (by kernel_rfl) (cs := [.nd 0 .one, .nd 1 .one]) (by kernel_rfl) (by decide) e4 e12⟩
 have ne17 : Apart p7 p11 := ⟨ptr_ne st.inn hE 3 1 4 2 (by kernel_rfl) (by kernel_rfl) (cs := [.nd 2 (.int .i64), .nd 3 (.int .i64), .nd 4 (.flt .f32), .nd 5 (.flt .f32), .nd 6 (.flt .f32), .nd 7 (.flt .f32)]) (by kernel_rfl) (by decide) e8 e12⟩
 have b18 := eo st hE 8 S
 have b19 := eo st hE 10 (.int .i64 (a : Int))
 have b20 := eo st hE 6 (.agg [.flt .f32 x, .flt .f32 y, .flt .f32 z])
 have g21 : Grew H H2 := (gk st)
 have g22 : Grew H H2 := Grew.trans (Grew.refl _) g21
 clear st hE vs ls
 have hlt23 : a < ms.length := by omega
 obtain ⟨lS23, cap23, rest23, wr23, eS23, gB23⟩ := hS.isSl hlt23
 have gS23 := g22.at gB23
 have ne24 := apn gB23 op3
 have ne25 := apn gB23 op7
 have ne26 := apn gB23 op11
 obtain ⟨v23_0, v23_1, v23_2, hm23, ho23_0, ho23_1, ho23_2⟩ := partsPose (hr.get hlt23)
 have he23 : ms.getD a [] = [.flt .f32 v23_0, .flt .f32 v23_1, .flt .f32 v23_2] := by rw [← hm23, List.getD_eq_getElem?_getD, List.getElem?_eq_getElem hlt23]; rfl
 have q27 := q1.app (.cons ⟨_, rfl, ho23_0⟩ (.cons ⟨_, rfl, ho23_1⟩ (.cons ⟨_, rfl, ho23_2⟩ .nil)) : KdsL [KF, KF, KF] [.flt .f32 v23_0, .flt .f32 v23_1, .flt .f32 v23_2])
 refine run_mc (φ := φ0) (pm := pmR 4 [(.ia 3 (n1 0) (nI 2), .ptr 3 0)] 0) 20 (ws := [⟨p3, 0, [n1 0, n1 1], false⟩, ⟨p7, 0, [nI 2, nI 3, nF 4, nF 5, nF 6, nF 7], false⟩, ⟨p11, 0, [.lit (.flt .f32 (some 0)), .lit (.flt .f32 (some 0)), .lit (.flt .f32 (some 0))], false⟩, ⟨lS23, (a * 3), [nF 8, nF 9, nF 10], false⟩]) (env := [(8, n1 0), (10, nI 2), (2, .ptr 0 0), (3, .ptr 1 0), (6, .agg [nF 4, nF 5, nF 6]), (4, .ptr 2 0)]) q27 (.cons (wR r5 q27) (.cons (wR r9 q27) (.cons (wR r13 q27) (.cons (win_elem hr gS23 hlt23 rfl (by rw [hm23]; exact (dL q27))) .nil)))) (sepOk_ro rfl) (.cons (rule_iaS (k := a) (dE q27) eS23 (dE q27) hlt23 rfl) .nil) (eC q27 (.cons b18 (.cons b19 (.cons e4 (.cons e8 (.cons b20 (.cons e12 .nil))))))) tb_ok ap_ok ?_
 refine all1 (by kernel_rfl) ?_
 intro vs ls H28 E28 st hE
 have b29 := eo st hE 14 S
 have b30 := eo st hE 16 (.int .i64 (b : Int))
 have b31 := eo st hE 12 (.agg [.flt .f32 v23_0, .flt .f32 v23_1, .flt .f32 v23_2])
 have b32 := eo st hE 6 (.agg [.flt .f32 x, .flt .f32 y, .flt .f32 z])
 have b33 := eo st hE 4 (.ptr p11 0)
 have g34 : Grew H2 H28 := (gk st)
 have g35 : Grew H H28 := Grew.trans g22 g34
 have r38 := g34.at r13
 clear st hE vs ls
 have hlt40 : b < ms.length := by omega
 obtain ⟨lS40, cap40, rest40, wr40, eS40, gB40⟩ := hS.isSl hlt40
 have gS40 := g35.at gB40
 have ne41 := apn gB40 op11
 obtain ⟨v40_0, v40_1, v40_2, hm40, ho40_0, ho40_1, ho40_2⟩ := partsPose (hr.get hlt40)
 have he40 : ms.getD b [] = [.flt .f32 v40_0, .flt .f32 v40_1, .flt .f32 v40_2] := by rw [← hm40, List.getD_eq_getElem?_getD, List.getElem?_eq_getElem hlt40]; rfl
 obtain ⟨r42_0, r42_1, r42_2, hmr42, or42_0, or42_1, or42_2⟩ := partsPose (betwF_ok [.flt .f32 v23_0, .flt .f32 v23_1, .flt .f32 v23_2] [.flt .f32 v40_0, .flt .f32 v40_1, .flt .f32 v40_2])
 obtain ⟨r43_0, r43_1, r43_2, hmr43, or43_0, or43_1, or43_2⟩ := partsPose (betwF_ok [.flt .f32 x, .flt .f32 y, .flt .f32 z] [.flt .f32 r42_0, .flt .f32 r42_1, .flt .f32 r42_2])
 have q44 := q27.app (.cons ⟨_, rfl, ho40_0⟩ (.cons ⟨_, rfl, ho40_1⟩ (.cons ⟨_, rfl, ho40_2⟩ (.cons ⟨_, rfl, or42_0⟩ (.cons ⟨_, rfl, or42_1⟩ (.cons ⟨_, rfl, or42_2⟩ (.cons ⟨_, rfl, or43_0⟩ (.cons ⟨_, rfl, or43_1⟩ (.cons ⟨_, rfl, or43_2⟩ .nil)))))))) : KdsL [KF, KF, KF, KF, KF, KF, KF, KF, KF] [.flt .f32 v40_0, .flt .f32 v40_1, .flt .f32 v40_2, .flt .f32 r42_0, .flt .f32 r42_1, .flt .f32 r42_2, .flt .f32 r43_0, .flt .f32 r43_1, .flt .f32 r43_2])
 refine run_mc (φ := φ0) (pm := pmR 1 [] 0) 20 (ws := [⟨lS40, (b * 3), [nF 11, nF 12, nF 13], false⟩, ⟨p11, 0, [.lit (.flt .f32 (some 0)), .lit (.flt .f32 (some 0)), .lit (.flt .f32 (some 0))], true⟩]) (env := [(14, n1 0), (16, nI 3), (12, .agg [nF 8, nF 9, nF 10]), (6, .agg [nF 4, nF 5, nF 6]), (4, .ptr 1 0)]) q44 (.cons (win_elem hr gS40 hlt40 rfl (by rw [hm40]; exact (dL q44))) (.cons (wO r38 q44) .nil)) (sepD (by repeat (first | exact .nil | refine .cons (by first | assumption | exact Apart.symm (by assumption)) ?_))) .nil (eC q44 (.cons b29 (.cons b30 (.cons b31 (.cons b32 (.cons b33 .nil)))))) tb_ok ap_ok ?_
 refine all1 (by kernel_rfl) ?_
 intro vs ls H45 E45 st hE
 have b46 := eo st hE 14 S
 have b47 := eo st hE 16 (.int .i64 (b : Int))
 have b48 := eo st hE 12 (.agg [.flt .f32 v23_0, .flt .f32 v23_1, .flt .f32 v23_2])
 have b49 := eo st hE 6 (.agg [.flt .f32 x, .flt .f32 y, .flt .f32 z])
 have b50 := eo st hE 4 (.ptr p11 0)
 have g51 : Grew H28 H45 := (gk st)
 have g52 : Grew H H45 := Grew.trans g35 g51
 have r54 := g51.at r38
 clear st hE vs ls
 have hlt55 : b < ms.length := by omega
 obtain ⟨lS55, cap55, rest55, wr55, eS55, gB55⟩ := hS.isSl hlt55
 have gS55 := g52.at gB55
 have ne56 := apn gB55 op11
 obtain ⟨v55_0, v55_1, v55_2, hm55, ho55_0, ho55_1, ho55_2⟩ := partsPose (hr.get hlt55)
 have he55 : ms.getD b [] = [.flt .f32 v55_0, .flt .f32 v55_1, .flt .f32 v55_2] := by rw [← hm55, List.getD_eq_getElem?_getD, List.getElem?_eq_getElem hlt55]; rfl
 have hq55 := he40.symm.trans he55
 simp only [List.cons.injEq, AV.flt.injEq, AV.int.injEq, Int.natCast_inj, true_and, and_true] at hq55
 obtain ⟨rfl, rfl, rfl⟩ := hq55
 have q57 := q44.app (.cons ⟨_, rfl, ho55_0⟩ (.cons ⟨_, rfl, ho55_1⟩ (.cons ⟨_, rfl, ho55_2⟩ .nil)) : KdsL [KF, KF, KF] [.flt .f32 v40_0, .flt .f32 v40_1, .flt .f32 v40_2])
 refine run_mc (φ := φ0) (pm := pmR 1 [(.ia 3 (n1 0) (nI 3), .ptr 0 0), (.call 100 [.agg [nF 8, nF 9, nF 10], .agg [nF 20, nF 21, nF 22]], .agg [nF 14, nF 15, nF 16]), (.call 100 [.agg [nF 4, nF 5, nF 6], .agg [nF 14, nF 15, nF 16]], .agg [nF 17, nF 18, nF 19])] 0) 20 (ws := [⟨lS55, (b * 3), [nF 20, nF 21, nF 22], false⟩, ⟨p11, 0, [.lit (.flt .f32 (some 0)), .lit (.flt .f32 (some 0)), .lit (.flt .f32 (some 0))], true⟩]) (env := [(14, n1 0), (16, nI 3), (12, .agg [nF 8, nF 9, nF 10]), (6, .agg [nF 4, nF 5, nF 6]), (4, .ptr 1 0)]) q57 (.cons (win_elem hr gS55 hlt55 rfl (by rw [hm55]; exact (dL q57))) (.cons (wO r54 q57) .nil)) (sepD (by repeat (first | exact .nil | refine .cons (by first | assumption | exact Apart.symm (by assumption)) ?_))) (.cons (rule_iaS (k := b) (dE q57) eS55 (dE q57) hlt55 rfl) (.cons (rule_call (args := [.agg [.flt .f32 v23_0, .flt .f32 v23_1, .flt .f32 v23_2], .agg [.flt .f32 v40_0, .flt .f32 v40_1, .flt .f32 v40_2]]) (r := .agg [.flt .f32 r42_0, .flt .f32 r42_1, .flt .f32 r42_2]) (dL q57) (dE q57) (fun H9 hk => (by rw [← hmr42]; exact k_StepBetween [.flt .f32 v23_0, .flt .f32 v23_1, .flt .f32 v23_2] [.flt .f32 v40_0, .flt .f32 v40_1, .flt .f32 v40_2] (.cons ⟨_, rfl, ho23_0⟩ (.cons ⟨_, rfl, ho23_1⟩ (.cons ⟨_, rfl, ho23_2⟩ .nil))) (.cons ⟨_, rfl, ho55_0⟩ (.cons ⟨_, rfl, ho55_1⟩ (.cons ⟨_, rfl, ho55_2⟩ .nil))) H9))) (.cons (rule_call (args := [.agg [.flt .f32 x, .flt .f32 y, .flt .f32 z], .agg [.flt .f32 r42_0, .flt .f32 r42_1, .flt .f32 r42_2]]) (r := .agg [.flt .f32 r43_0, .flt .f32 r43_1, .flt .f32 r43_2]) (dL q57) (dE q57) (fun H9 hk => (by rw [← hmr43]; exact k_StepBetween [.flt .f32 x, .flt .f32 y, .flt .f32 z] [.flt .f32 r42_0, .flt .f32 r42_1, .flt .f32 r42_2] (.cons ⟨_, rfl, ox⟩ (.cons ⟨_, rfl, oy⟩ (.cons ⟨_, rfl, oz⟩ .nil))) (.cons ⟨_, rfl, or42_0⟩ (.cons ⟨_, rfl, or42_1⟩ (.cons ⟨_, rfl, or42_2⟩ .nil))) H9))) .nil))) (eC q57 (.cons b46 (.cons b47 (.cons b48 (.cons b49 (.cons b50 .nil)))))) tb_ok ap_ok ?_
 refine all1 (by kernel_rfl) ?_
 intro vs ls H58 E58 st hE
 refine res_ex (by kernel_rfl) (end_flat st.inn hE (.inr rfl) (a := .agg [.flt .f32 r43_0, .flt .f32 r43_1, .flt .f32 r43_2]) (by kernel_rfl) (grew_own g52 (st.inn.kept) ⟨op11, trivial⟩) rfl ⟨?_, rfl⟩)
 unfold offF; rw [he23, he55, hmr42, hmr43]
theorem k_l06Off (H : AHeap) (ms : List (List AV)) (hr : Recs KP ms) (S : AV) (hS : SlL H 3 ms S) (hmx : ms.length < 2 ^ 40) (Sk : AV) (hSk : Sk.one = true) (a b : Nat) (ha : a < ms.length) (hb : b < ms.length) (x y z u : Option Nat) (ox : fOk .f32 x) (oy : fOk .f32 y) (oz : fOk .f32 z) (ou : fOk .f32 u) (lg : Nat) (hg : H.get lg = some (.row [S, Sk] true)) (l off : Nat) (pre post : List AV) (wr : Bool) (hx : H.get l = some (.row (pre ++ ([.int .i64 (a : Int), .int .i64 (b : Int), .flt .f32 x, .flt .f32 y, .flt .f32 z, .flt .f32 u] ++ post)) wr)) (hp : pre.length = off) : APure Try.prog 63 [.ptr lg 0, .ptr l off] H (.agg (offF ms a b [.flt .f32 x, .flt .f32 y, .flt .f32 z])) := by
 refine res_start h_spec_l06Off (by simp) ?_
 have q1 : KdsL [.one, .one, KI, KI, KF, KF, KF, KF] [S, Sk, .int .i64 (a : Int), .int .i64 (b : Int), .flt .f32 x, .flt .f32 y, .flt .f32 z, .flt .f32 u] := .cons (slOne hS) (.cons hSk (.cons ⟨_, rfl⟩ (.cons ⟨_, rfl⟩ (.cons ⟨_, rfl, ox⟩ (.cons ⟨_, rfl, oy⟩ (.cons ⟨_, rfl, oz⟩ (.cons ⟨_, rfl, ou⟩ .nil)))))))
 refine run_mc (φ := φ0) (pm := pmR 2 [] 0) 20 (ws := [⟨lg, 0, [n1 0, n1 1], false⟩, ⟨l, off, [nI 2, nI 3, nF 4, nF 5, nF 6, nF 7], false⟩]) (env := [(0, .ptr 0 0), (1, .ptr 1 0)]) q1 (.cons (wR hg q1) (.cons (win_mid hx hp (dL q1)) .nil)) (sepOk_ro rfl) .nil (eC q1 (.cons (t := 0) rfl (.cons (t := 1) rfl .nil))) tb_ok ap_ok ?_
 refine all1 (by kernel_rfl) ?_
 intro vs ls H2 E2 st hE
 obtain ⟨p3, e4, r5, n6⟩ := ptr_of st.inn hE 4 2 (by kernel_rfl) (ds := [.flt .f32 (some 0), .flt .f32 (some 0), .flt .f32 (some 0)]) (by kernel_rfl)
 have op3 : H.next ≤ p3 := Nat.le_trans (Nat.le_refl _) (n6 (Nat.le_of_ble_eq_true rfl))
 have ne7 := apn hg (n6 (Nat.le_of_ble_eq_true rfl))
 have ne8 := apn hx (n6 (Nat.le_of_ble_eq_true rfl))
 have b9 := eo st hE 12 S
 have b10 := eo st hE 16 (.int .i64 (a : Int))
 have b11 := eo st hE 0 (.ptr lg 0)
 have b12 := eo st hE 1 (.ptr l (off + 0))
 have b13 := eo st hE 8 (.agg [.flt .f32 x, .flt .f32 y, .flt .f32 z])
 have g14 : Grew H H2 := (gk st)
 have g15 : Grew H H2 := Grew.trans (Grew.refl _) g14
 have r16 := g14.at hg
 have r17 := g14.at hx
 clear st hE vs ls
 have hlt18 : a < ms.length := by omega
 obtain ⟨lS18, cap18, rest18, wr18, eS18, gB18⟩ := hS.isSl hlt18
 have gS18 := g15.at gB18
 have ne19 := apn gB18 op3
 obtain ⟨v18_0, v18_1, v18_2, hm18, ho18_0, ho18_1, ho18_2⟩ := partsPose (hr.get hlt18)
 have he18 : ms.getD a [] = [.flt .f32 v18_0, .flt .f32 v18_1, .flt .f32 v18_2] := by rw [← hm18, List.getD_eq_getElem?_getD, List.getElem?_eq_getElem hlt18]; rfl
 have q20 := q1.app (.cons ⟨_, rfl, ho18_0⟩ (.cons ⟨_, rfl, ho18_1⟩ (.cons ⟨_, rfl, ho18_2⟩ .nil)) : KdsL [KF, KF, KF] [.flt .f32 v18_0, .flt .f32 v18_1, .flt .f32 v18_2])
 refine run_mc (φ := φ0) (pm := pmR 4 [(.ia 3 (n1 0) (nI 2), .ptr 3 0)] 0) 20 (ws := [⟨lg, 0, [n1 0, n1 1], false⟩, ⟨l, off, [nI 2, nI 3, nF 4, nF 5, nF 6, nF 7], false⟩, ⟨p3, 0, [.lit (.flt .f32 (some 0)), .lit (.flt .f32 (some 0)), .lit (.flt .f32 (some 0))], false⟩, ⟨lS18, (a * 3), [nF 8, nF 9, nF 10], false⟩]) (env := [(12, n1 0), (16, nI 2), (0, .ptr 0 0), (1, .ptr 1 0), (8, .agg [nF 4, nF 5, nF 6]), (4, .ptr 2 0)]) q20 (.cons (wR r16 q20) (.cons (win_mid r17 hp (dL q20)) (.cons (wR r5 q20) (.cons (win_elem hr gS18 hlt18 rfl (by rw [hm18]; exact (dL q20))) .nil)))) (sepOk_ro rfl) (.cons (rule_iaS (k := a) (dE q20) eS18 (dE q20) hlt18 rfl) .nil) (eC q20 (.cons b9 (.cons b10 (.cons b11 (.cons b12 (.cons b13 (.cons e4 .nil))))))) tb_ok ap_ok ?_
 refine all1 (by kernel_rfl) ?_
 intro vs ls H21 E21 st hE
 have b22 := eo st hE 22 S
 have b23 := eo st hE 26 (.int .i64 (b : Int))
 have b24 := eo st hE 18 (.agg [.flt .f32 v18_0, .flt .f32 v18_1, .flt .f32 v18_2])
 have b25 := eo st hE 8 (.agg [.flt .f32 x, .flt .f32 y, .flt .f32 z])
 have b26 := eo st hE 4 (.ptr p3 0)
 have g27 : Grew H2 H21 := (gk st)
 have g28 : Grew H H21 := Grew.trans g15 g27
 have r31 := g27.at r5
 clear st hE vs ls
 have hlt33 : b < ms.length := by omega
 obtain ⟨lS33, cap33, rest33, wr33, eS33, gB33⟩ := hS.isSl hlt33
 have gS33 := g28.at gB33
 have ne34 := apn gB33 op3
 obtain ⟨v33_0, v33_1, v33_2, hm33, ho33_0, ho33_1, ho33_2⟩ := partsPose (hr.get hlt33)
 have he33 : ms.getD b [] = [.flt .f32 v33_0, .flt .f32 v33_1, .flt .f32 v33_2] := by rw [← hm33, List.getD_eq_getElem?_getD, List.getElem?_eq_getElem hlt33]; rfl
 obtain ⟨r35_0, r35_1, r35_2, hmr35, or35_0, or35_1, or35_2⟩ := partsPose (betwF_ok [.flt .f32 v18_0, .flt .f32 v18_1, .flt .f32 v18_2] [.flt .f32 v33_0, .flt .f32 v33_1, .flt .f32 v33_2])
 obtain ⟨r36_0, r36_1, r36_2, hmr36, or36_0, or36_1, or36_2⟩ := partsPose (betwF_ok [.flt .f32 x, .flt .f32 y, .flt .f32 z] [.flt .f32 r35_0, .flt .f32 r35_1, .flt .f32 r35_2])
 have q37 := q20.app (.cons ⟨_, rfl, ho33_0⟩ (.cons ⟨_, rfl, ho33_1⟩ (.cons ⟨_, rfl, ho33_2⟩ (.cons ⟨_, rfl, or35_0⟩ (.cons ⟨_, rfl, or35_1⟩ (.cons ⟨_, rfl, or35_2⟩ (.cons ⟨_, rfl, or36_0⟩ (.cons ⟨_, rfl, or36_1⟩ (.cons ⟨_, rfl, or36_2⟩ .nil)))))))) : KdsL [KF, KF, KF, KF, KF, KF, KF, KF, KF] [.flt .f32 v33_0, .flt .f32 v33_1, .flt .f32 v33_2, .flt .f32 r35_0, .flt .f32 r35_1, .flt .f32 r35_2, .flt .f32 r36_0, .flt .f32 r36_1, .flt .f32 r36_2])
 refine run_mc (φ := φ0) (pm := pmR 1 [] 0) 20 (ws := [⟨lS33, (b * 3), [nF 11, nF 12, nF 13], false⟩, ⟨p3, 0, [.lit (.flt .f32 (some 0)), .lit (.flt .f32 (some 0)), .lit (.flt .f32 (some 0))], true⟩]) (env := [(22, n1 0), (26, nI 3), (18, .agg [nF 8, nF 9, nF 10]), (8, .agg [nF 4, nF 5, nF 6]), (4, .ptr 1 0)]) q37 (.cons (win_elem hr gS33 hlt33 rfl (by rw [hm33]; exact (dL q37))) (.cons (wO r31 q37) .nil)) (sepD (by repeat (first | exact .nil | refine .cons (by first | assumption | exact Apart.symm (by assumption)) ?_))) .nil (eC q37 (.cons b22 (.cons b23 (.cons b24 (.cons b25 (.cons b26 .nil)))))) tb_ok ap_ok ?_
 refine all1 (by kernel_rfl) ?_
 intro vs ls H38 E38 st hE
 have b39 := eo st hE 22 S
 have b40 := eo st hE 26 (.int .i64 (b : Int))
 have b41 := eo st hE 18 (.agg [.flt .f32 v18_0, .flt .f32 v18_1, .flt .f32 v18_2])
 have b42 := eo st hE 8 (.agg [.flt .f32 x, .flt .f32 y, .flt .f32 z])
 have b43 := eo st hE 4 (.ptr p3 0)
 have g44 : Grew H21 H38 := (gk st)
 have g45 : Grew H H38 := Grew.trans g28 g44
 have r47 := g44.at r31
 clear st hE vs ls
 have hlt48 : b < ms.length := by omega
 obtain ⟨lS48, cap48, rest48, wr48, eS48, gB48⟩ := hS.isSl hlt48
 have gS48 := g45.at gB48
 have ne49 := apn gB48 op3
 obtain ⟨v48_0, v48_1, v48_2, hm48, ho48_0, ho48_1, ho48_2⟩ := partsPose (hr.get hlt48)
 have he48 : ms.getD b [] = [.flt .f32 v48_0, .flt .f32 v48_1, .flt .f32 v48_2] := by rw [← hm48, List.getD_eq_getElem?_getD, List.getElem?_eq_getElem hlt48]; rfl
 have hq48 := he33.symm.trans he48
 simp only [List.cons.injEq, AV.flt.injEq, AV.int.injEq, Int.natCast_inj, true_and, and_true] at hq48
 obtain ⟨rfl, rfl, rfl⟩ := hq48
 have q50 := q37.app (.cons ⟨_, rfl, ho48_0⟩ (.cons ⟨_, rfl, ho48_1⟩ (.cons ⟨_, rfl, ho48_2⟩ .nil)) : KdsL [KF, KF, KF] [.flt .f32 v33_0, .flt .f32 v33_1, .flt .f32 v33_2])
 refine run_mc (φ := φ0) (pm := pmR 1 [(.ia 3 (n1 0) (nI 3), .ptr 0 0), (.call 95 [.agg [nF 8, nF 9, nF 10], .agg [nF 20, nF 21, nF 22]], .agg [nF 14, nF 15, nF 16]), (.call 95 [.agg [nF 4, nF 5, nF 6], .agg [nF 14, nF 15, nF 16]], .agg [nF 17, nF 18, nF 19])] 0) 20 (ws := [⟨lS48, (b * 3), [nF 20, nF 21, nF 22], false⟩, ⟨p3, 0, [.lit (.flt .f32 (some 0)), .lit (.flt .f32 (some 0)), .lit (.flt .f32 (some 0))], true⟩]) (env := [(22, n1 0), (26, nI 3), (18, .agg [nF 8, nF 9, nF 10]), (8, .agg [nF 4, nF 5, nF 6]), (4, .ptr 1 0)]) q50 (.cons (win_elem hr gS48 hlt48 rfl (by rw [hm48]; exact (dL q50))) (.cons (wO r47 q50) .nil)) (sepD (by repeat (first | exact .nil | refine .cons (by first | assumption | exact Apart.symm (by assumption)) ?_))) (.cons (rule_iaS (k := b) (dE q50) eS48 (dE q50) hlt48 rfl) (.cons (rule_call (args := [.agg [.flt .f32 v18_0, .flt .f32 v18_1, .flt .f32 v18_2], .agg [.flt .f32 v33_0, .flt .f32 v33_1, .flt .f32 v33_2]]) (r := .agg [.flt .f32 r35_0, .flt .f32 r35_1, .flt .f32 r35_2]) (dL q50) (dE q50) (fun H9 hk => (by rw [← hmr35]; exact k_l06Between [.flt .f32 v18_0, .flt .f32 v18_1, .flt .f32 v18_2] [.flt .f32 v33_0, .flt .f32 v33_1, .flt .f32 v33_2] (.cons ⟨_, rfl, ho18_0⟩ (.cons ⟨_, rfl, ho18_1⟩ (.cons ⟨_, rfl, ho18_2⟩ .nil))) (.cons ⟨_, rfl, ho48_0⟩ (.cons ⟨_, rfl, ho48_1⟩ (.cons ⟨_, rfl, ho48_2⟩ .nil))) H9))) (.cons (rule_call (args := [.agg [.flt .f32 x, .flt .f32 y, .flt .f32 z], .agg [.flt .f32 r35_0, .flt .f32 r35_1, .flt .f32 r35_2]]) (r := .agg [.flt .f32 r36_0, .flt .f32 r36_1, .flt .f32 r36_2]) (dL q50) (dE q50) (fun H9 hk => (by rw [← hmr36]; exact k_l06Between [.flt .f32 x, .flt .f32 y, .flt .f32 z] [.flt .f32 r35_0, .flt .f32 r35_1, .flt .f32 r35_2] (.cons ⟨_, rfl, ox⟩ (.cons ⟨_, rfl, oy⟩ (.cons ⟨_, rfl, oz⟩ .nil))) (.cons ⟨_, rfl, or35_0⟩ (.cons ⟨_, rfl, or35_1⟩ (.cons ⟨_, rfl, or35_2⟩ .nil))) H9))) .nil))) (eC q50 (.cons b39 (.cons b40 (.cons b41 (.cons b42 (.cons b43 .nil)))))) tb_ok ap_ok ?_
 refine all1 (by kernel_rfl) ?_
 intro vs ls H51 E51 st hE
 refine res_ex (by kernel_rfl) (end_flat st.inn hE (.inr rfl) (a := .agg [.flt .f32 r36_0, .flt .f32 r36_1, .flt .f32 r36_2]) (by kernel_rfl) (grew_own g45 (st.inn.kept) ⟨op3, trivial⟩) rfl ⟨?_, rfl⟩)
 unfold offF; rw [he18, he48, hmr35, hmr36]
theorem k_costOfLink (H : AHeap) (ms : List (List AV)) (hr : Recs KP ms) (S : AV) (hS : SlL H 3 ms S) (hmx : ms.length < 2 ^ 40) (Sk : AV) (hSk : Sk.one = true) (a b : Nat) (ha : a < ms.length) (hb : b < ms.length) (x y z u : Option Nat) (ox : fOk .f32 x) (oy : fOk .f32 y) (oz : fOk .f32 z) (ou : fOk .f32 u) : APure Try.prog 70 [.agg [S, Sk], .agg [.int .i64 (a : Int), .int .i64 (b : Int), .flt .f32 x, .flt .f32 y, .flt .f32 z, .flt .f32 u]] H (.flt .f32 (sqF ms [.int .i64 (a : Int), .int .i64 (b : Int), .flt .f32 x, .flt .f32 y, .flt .f32 z, .flt .f32 u])) := by
 refine res_start h_impl_PoseGraph_costOfLink (by simp) ?_
 obtain ⟨r1_0, r1_1, r1_2, hmr1, or1_0, or1_1, or1_2⟩ := partsPose (offF_ok ms a b [.flt .f32 x, .flt .f32 y, .flt .f32 z])
 have q2 : KdsL [.one, .one, KI, KI, KF, KF, KF, KF, KF, KF, KF] [S, Sk, .int .i64 (a : Int), .int .i64 (b : Int), .flt .f32 x, .flt .f32 y, .flt .f32 z, .flt .f32 u, .flt .f32 r1_0, .flt .f32 r1_1, .flt .f32 r1_2] := .cons (slOne hS) (.cons hSk (.cons ⟨_, rfl⟩ (.cons ⟨_, rfl⟩ (.cons ⟨_, rfl, ox⟩ (.cons ⟨_, rfl, oy⟩ (.cons ⟨_, rfl, oz⟩ (.cons ⟨_, rfl, ou⟩ (.cons ⟨_, rfl, or1_0⟩ (.cons ⟨_, rfl, or1_1⟩ (.cons ⟨_, rfl, or1_2⟩ .nil))))))))))
 refine run_mc (φ := φ0) (pm := pmR 0 [(.call 66 [.agg [n1 0, n1 1], .agg [nI 2, nI 3, nF 4, nF 5, nF 6, nF 7]], .agg [nF 8, nF 9, nF 10])] 100) 20 (ws := []) (env := [(0, .agg [n1 0, n1 1]), (1, .agg [nI 2, nI 3, nF 4, nF 5, nF 6, nF 7])]) q2 .nil (sepOk_ro rfl) (.cons (rule_call (args := [.agg [S, Sk], .agg [.int .i64 (a : Int), .int .i64 (b : Int), .flt .f32 x, .flt .f32 y, .flt .f32 z, .flt .f32 u]]) (r := .agg [.flt .f32 r1_0, .flt .f32 r1_1, .flt .f32 r1_2]) (dL q2) (dE q2) (fun H9 hk => (by rw [← hmr1]; exact k_residual H9 ms hr S (hS.grew (Grew.trans (Grew.refl _) (hk.grew (Nat.le_refl _)))) hmx Sk hSk a b ha hb x y z u ox oy oz ou))) .nil) (eC q2 (.cons (t := 0) rfl (.cons (t := 1) rfl .nil))) tb_ok ap_ok ?_
 refine all1 (by kernel_rfl) ?_
 intro vs ls H3 E3 st hE
 refine res_ex (by kernel_rfl) (end_flat st.inn hE (.inr rfl) (a := .flt .f32 (fop .mul .f32 u (fop .add .f32 (fop .add .f32 (fop .mul .f32 r1_0 r1_0) (fop .mul .f32 r1_1 r1_1)) (fop .mul .f32 r1_2 r1_2)))) (by kernel_rfl) (Grew.trans (Grew.refl _) (gk st)) rfl ⟨?_, rfl⟩)
 show _ = AV.flt .f32 (sqW u (offF ms a b [.flt .f32 x, .flt .f32 y, .flt .f32 z])); rw [hmr1]; rfl
theorem k_l06Square (H : AHeap) (ms : List (List AV)) (hr : Recs KP ms) (S : AV) (hS : SlL H 3 ms S) (hmx : ms.length < 2 ^ 40) (Sk : AV) (hSk : Sk.one = true) (a b : Nat) (ha : a < ms.length) (hb : b < ms.length) (x y z u : Option Nat) (ox : fOk .f32 x) (oy : fOk .f32 y) (oz : fOk .f32 z) (ou : fOk .f32 u) (lg : Nat) (hg : H.get lg = some (.row [S, Sk] true)) (l off : Nat) (pre post : List AV) (wr : Bool) (hx : H.get l = some (.row (pre ++ ([.int .i64 (a : Int), .int .i64 (b : Int), .flt .f32 x, .flt .f32 y, .flt .f32 z, .flt .f32 u] ++ post)) wr)) (hp : pre.length = off) : APure Try.prog 69 [.ptr lg 0, .ptr l off] H (.flt .f32 (sqF ms [.int .i64 (a : Int), .int .i64 (b : Int), .flt .f32 x, .flt .f32 y, .flt .f32 z, .flt .f32 u])) := by
 refine res_start h_spec_l06Square (by simp) ?_
 obtain ⟨r1_0, r1_1, r1_2, hmr1, or1_0, or1_1, or1_2⟩ := partsPose (offF_ok ms a b [.flt .f32 x, .flt .f32 y, .flt .f32 z])
 have q2 : KdsL [.one, .one, KI, KI, KF, KF, KF, KF, KF, KF, KF] [S, Sk, .int .i64 (a : Int), .int .i64 (b : Int), .flt .f32 x, .flt .f32 y, .flt .f32 z, .flt .f32 u, .flt .f32 r1_0, .flt .f32 r1_1, .flt .f32 r1_2] := .cons (slOne hS) (.cons hSk (.cons ⟨_, rfl⟩ (.cons ⟨_, rfl⟩ (.cons ⟨_, rfl, ox⟩ (.cons ⟨_, rfl, oy⟩ (.cons ⟨_, rfl, oz⟩ (.cons ⟨_, rfl, ou⟩ (.cons ⟨_, rfl, or1_0⟩ (.cons ⟨_, rfl, or1_1⟩ (.cons ⟨_, rfl, or1_2⟩ .nil))))))))))
 refine run_mc (φ := φ0) (pm := pmR 2 [(.call 63 [.ptr 0 0, .ptr 1 0], .agg [nF 8, nF 9, nF 10])] 100) 20 (ws := [⟨lg, 0, [n1 0, n1 1], false⟩, ⟨l, off, [nI 2, nI 3, nF 4, nF 5, nF 6, nF 7], false⟩]) (env := [(0, .ptr 0 0), (1, .ptr 1 0)]) q2 (.cons (wR hg q2) (.cons (win_mid hx hp (dL q2)) .nil)) (sepOk_ro rfl) (.cons (rule_call (args := [.ptr lg 0, .ptr l (off + 0)]) (r := .agg [.flt .f32 r1_0, .flt .f32 r1_1, .flt .f32 r1_2]) (dL q2) (dE q2) (fun H9 hk => (by rw [← hmr1]; exact k_l06Off H9 ms hr S (hS.grew (Grew.trans (Grew.refl _) (hk.grew (Nat.le_refl _)))) hmx Sk hSk a b ha hb x y z u ox oy oz ou lg ((hk.grew (Nat.le_refl _)).at hg) l off pre post wr ((hk.grew (Nat.le_refl _)).at hx) hp))) .nil) (eC q2 (.cons (t := 0) rfl (.cons (t := 1) rfl .nil))) tb_ok ap_ok ?_
 refine all1 (by kernel_rfl) ?_
 intro vs ls H3 E3 st hE
 refine res_ex (by kernel_rfl) (end_flat st.inn hE (.inr rfl) (a := .flt .f32 (fop .mul .f32 u (fop .add .f32 (fop .add .f32 (fop .mul .f32 r1_0 r1_0) (fop .mul .f32 r1_1 r1_1)) (fop .mul .f32 r1_2 r1_2)))) (by kernel_rfl) (Grew.trans (Grew.refl _) (gk st)) rfl ⟨?_, rfl⟩)
 show _ = AV.flt .f32 (sqW u (offF ms a b [.flt .f32 x, .flt .f32 y, .flt .f32 z])); rw [hmr1]; rfl
end Go.Proofs.Ytcmoeocemmeofaa
