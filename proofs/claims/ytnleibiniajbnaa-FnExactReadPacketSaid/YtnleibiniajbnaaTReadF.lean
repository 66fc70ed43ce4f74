/- Contracts: packets that are read, by the reference. -/
import Derived.Test.YtnleibiniajbnaaTReadP
import Derived.Test.YtnleibiniajbnaaSxE
set_option linter.unusedVariables false
set_option linter.unusedSimpArgs false
namespace Go.Proofs.Ytnleibiniajbnaa
open Go.Ab
set_option maxRecDepth 100000
set_option maxHeartbeats 1000000
attribute [local irreducible] Res
theorem sh64 (v : Int) (k : Nat) (h0 : 0 ≤ v) (h1 : v < 256) (hk : k ≤ 24) : IntKind.wrap .i64 ((IntKind.wrap .i64 v) * 2 ^ (min (Int.toNat (k : Int)) (IntKind.bits .i64))) = v * 2 ^ k := by
 have e1 : IntKind.wrap .i64 v = v := wrap_i64 om om
 have e2 : min (Int.toNat (k : Int)) (IntKind.bits .i64) = k := by
  show min (Int.toNat (k : Int)) 64 = k
  rw [Int.toNat_natCast]; omega
 have h2 : (2 : Int) ^ k ≤ 2 ^ 24 := by exact_mod_cast Nat.pow_le_pow_right (by decide : 0 < 2) hk
 have h3 : 0 ≤ (2 : Int) ^ k := Int.le_of_lt (Int.pow_pos (by decide))
 have h4 : v * 2 ^ k ≤ 255 * 2 ^ 24 := Int.mul_le_mul om h2 h3 om
 have h5 : 0 ≤ v * 2 ^ k := Int.mul_nonneg h0 h3
 rw [e1, e2]
 exact wrap_i64 om om
theorem t4w (a b c d : Nat) (ha : a < 256) (hb : b < 256) (hc : c < 256) (hd : d < 256) : IntKind.wrap .i64 (IntKind.wrap .i64 (IntKind.wrap .i64 (IntKind.wrap .i64 (a : Int) + IntKind.wrap .i64 ((IntKind.wrap .i64 (b : Int)) * 2 ^ (min (Int.toNat 8) (IntKind.bits .i64)))) + IntKind.wrap .i64 ((IntKind.wrap .i64 (c : Int)) * 2 ^ (min (Int.toNat 16) (IntKind.bits .i64)))) + IntKind.wrap .i64 ((IntKind.wrap .i64 (d : Int)) * 2 ^ (min (Int.toNat 24) (IntKind.bits .i64)))) = (a : Int) + 256 * (b : Int) + 65536 * (c : Int) + 16777216 * (d : Int) := by
 have e1 := sh64 (b : Int) 8 om om om
 have e2 := sh64 (c : Int) 16 om om om
 have e3 := sh64 (d : Int) 24 om om om
 have e4 : IntKind.wrap .i64 (a : Int) = (a : Int) := wrap_i64 om om
 rw [show Int.toNat 8 = Int.toNat ((8 : Nat) : Int) from rfl, show Int.toNat 16 = Int.toNat ((16 : Nat) : Int) from rfl, show Int.toNat 24 = Int.toNat ((24 : Nat) : Int) from rfl, e1, e2, e3, e4]
 rw [wrap_i64 (n := (a : Int) + (b : Int) * 2 ^ 8) om om, wrap_i64 (n := (a : Int) + (b : Int) * 2 ^ 8 + (c : Int) * 2 ^ 16) om om, wrap_i64 om om]
 omega
theorem t2w (a b : Nat) (ha : a < 256) (hb : b < 256) : IntKind.wrap .i16 (IntKind.wrap .u16 (IntKind.wrap .u16 (a : Int) + IntKind.wrap .u16 ((IntKind.wrap .u16 (b : Int)) * 2 ^ (min (Int.toNat 8) (IntKind.bits .u16))))) = IntKind.wrap .i16 ((a : Int) + 256 * (b : Int)) := by
 rw [show (2 : Int) ^ (min (Int.toNat 8) (IntKind.bits .u16)) = 256 from rfl, wr_u16, wr_u16, wr_u16, wr_u16]
 congr 1
 omega
open Classical in
theorem k_spec_ReadPacket (H : AHeap) (ms : List (List AV)) (hg : RngB ms) (S : AV) (hS : SlL H 1 ms S) (hmx : ms.length < 2 ^ 40) : ACalls Try.prog 32 [S] H fun r H' => Grew H H' ∧ ∃ S', r = .tuple [S', .int .i64 (rdV ms).2] ∧ SlW H' 4 (rdV ms).1 S' ∧ FreshS H.next S' := by
 refine res_start h_spec_ReadPacket (by simp) ?_
 have q1 : KdsL [.one, KI] [S, .int .i64 (ms.length : Int)] := kL
 refine rD 0 0 [(.len (n1 0), nI 1)] [] [(0, n1 0)] q1 (.cons (⟨_, _, (dE q1), (dE q1), slLen hS⟩) .nil) (.cons (t := 0) rfl .nil) ?_
 refine all3 kr ?_ ?_ ?_
 ·
  intro vs ls H2 E2 st hE
  have f3 : 2566 < (ms.length : Int) := dt st 0
  have gz : Grew H H2 := (Grew.trans (Grew.refl _) (gk st))
  have hv : rdV ms = ([], 2) := by
   unfold rdV; rw [if_pos om]
  obtain ⟨pz, ez, rz, nz⟩ := sl_of st.inn hE 2 0 0 0 4 kr (ds := []) kr
  have oz : H.next ≤ pz := Nat.le_trans (Nat.le_refl _) (nz (Nat.le_of_ble_eq_true rfl))
  have e7 : E2 3 = .int .i64 2 := env_of st.inn hE 3 kr
  exact res_ex kr (end_tmps (.inr rfl) ez e7 gz.next (by rw [hv]; exact ⟨gz, _, rfl, .sl (by simpa using rz) rfl (Nat.le_refl _), .of_le oz⟩))
 ·
  intro vs ls H4 E4 st hE
  have f5 : (ms.length : Int) < 6 := dt st 0
  have f6 : ¬ (2566 < (ms.length : Int)) := df st 1
  have gz : Grew H H4 := (Grew.trans (Grew.refl _) (gk st))
  have hv : rdV ms = ([], 5) := by
   unfold rdV; rw [if_neg om, if_neg (fun hh => by obtain ⟨h1, h2, h3, h4⟩ := hh; omega)]
  obtain ⟨pz, ez, rz, nz⟩ := sl_of st.inn hE 2 0 0 0 4 kr (ds := []) kr
  have oz : H.next ≤ pz := Nat.le_trans (Nat.le_refl _) (nz (Nat.le_of_ble_eq_true rfl))
  have e7 : E4 3 = .int .i64 5 := env_of st.inn hE 3 kr
  exact res_ex kr (end_tmps (.inr rfl) ez e7 gz.next (by rw [hv]; exact ⟨gz, _, rfl, .sl (by simpa using rz) rfl (Nat.le_refl _), .of_le oz⟩))
 ·
  intro vs ls H7 E7 st hE
  have f8 : ¬ ((ms.length : Int) < 6) := df st 0
  have f9 : ¬ (2566 < (ms.length : Int)) := df st 1
  obtain ⟨w11, hw11⟩ : ∃ z, z = (decide ((ms.length : Int) < 6)) := ⟨_, rfl⟩
  have b12 : E7 17 = .bool w11 := by rw [hw11]; exact eo st hE 17 _
  have B1 := es st hE [(18, S), (0, S)]
  have g14 : Grew H H7 := (gk st)
  have g15 : Grew H H7 := Grew.trans (Grew.refl _) g14
  have hlt16 : 0 < ms.length := by omega
  obtain ⟨lS16, cap16, rest16, wr16, eS16, gB16⟩ := hS.isSl hlt16
  have gS16 := g15.at gB16
  obtain ⟨v16_0, hm16, hb16⟩ := (rngParts hg hlt16)
  have he16 : ms.getD 0 [] = [.int .u8 (v16_0 : Int)] := by rw [← hm16, List.getD_eq_getElem?_getD, List.getElem?_eq_getElem hlt16]; rfl
  have q17 := q1.app (kL : KdsL [.bool, .int .u8] [.bool w11, .int .u8 (v16_0 : Int)])
  refine run_mc (φ := φ0) (pm := pmR 1 [(.ia 1 (n1 0) (.lit (.int .i64 0)), .ptr 0 0)] 0) 20 (ws := [⟨lS16, (0 * 1), [.nd 3 (.int .u8)], false⟩]) (env := [(18, n1 0), (0, n1 0), (17, nB 2)]) q17 (.cons (win_elem hg.recs gS16 hlt16 rfl (by rw [hm16]; exact (dL q17))) .nil) (sepOk_ro rfl) (.cons (rule_iaS (k := 0) (dE q17) eS16 (dE q17) hlt16 rfl) .nil) (eC q17 (sc B1 (.cons b12 .nil))) tb_ok ap_ok ?_
  refine all3 kr ?_ ?_ ?_
  ·
   intro vs ls H18 E18 st hE
   have f19 : w11 = true := bf st 0
   rw [hw11] at f19
   exact absurd (of_decide_eq_true f19) f8
  ·
   intro vs ls H23 E23 st hE
   have f24 : ¬ ((v16_0 : Int) = 82) := df st 0
   have f25 : w11 = false := bf st 1
   have gz : Grew H H23 := (Grew.trans g15 (gk st))
   simp [hw11] at f25
   have y0 := byN_at he16
   have hv : rdV ms = ([], 5) := by
    unfold rdV; rw [if_neg om, if_neg (fun hh => by obtain ⟨h1, h2, h3, h4⟩ := hh; omega)]
   obtain ⟨pz, ez, rz, nz⟩ := sl_of st.inn hE 2 1 0 0 4 kr (ds := []) kr
   have oz : H.next ≤ pz := Nat.le_trans g15.next (nz (Nat.le_of_ble_eq_true rfl))
   have e7 : E23 3 = .int .i64 5 := env_of st.inn hE 3 kr
   exact res_ex kr (end_tmps (.inr rfl) ez e7 gz.next (by rw [hv]; exact ⟨gz, _, rfl, .sl (by simpa using rz) rfl (Nat.le_refl _), .of_le oz⟩))
  ·
   intro vs ls H26 E26 st hE
   have f27 : (v16_0 : Int) = 82 := dt st 0
   have f28 : w11 = false := bf st 1
   obtain ⟨w30, hw30⟩ : ∃ z, z = (!(decide ((v16_0 : Int) = 82))) := ⟨_, rfl⟩
   have b31 : E26 23 = .bool w30 := by rw [hw30]; exact eo st hE 23 _
   have B2 := es st hE [(24, S), (0, S)]
   have g33 : Grew H7 H26 := (gk st)
   have g34 := Grew.trans g15 g33
   have hlt36 : 1 < ms.length := by omega
   obtain ⟨lS36, cap36, rest36, wr36, eS36, gB36⟩ := hS.isSl hlt36
   have gS36 := g34.at gB36
   obtain ⟨v36_0, hm36, hb36⟩ := (rngParts hg hlt36)
   have he36 : ms.getD 1 [] = [.int .u8 (v36_0 : Int)] := by rw [← hm36, List.getD_eq_getElem?_getD, List.getElem?_eq_getElem hlt36]; rfl
   have q37 := q17.app (kL : KdsL [.bool, .int .u8] [.bool w30, .int .u8 (v36_0 : Int)])
   refine run_mc (φ := φ0) (pm := pmR 1 [(.ia 1 (n1 0) (.lit (.int .i64 1)), .ptr 0 0)] 0) 20 (ws := [⟨lS36, (1 * 1), [.nd 5 (.int .u8)], false⟩]) (env := [(24, n1 0), (0, n1 0), (23, nB 4)]) q37 (.cons (win_elem hg.recs gS36 hlt36 rfl (by rw [hm36]; exact (dL q37))) .nil) (sepOk_ro rfl) (.cons (rule_iaS (k := 1) (dE q37) eS36 (dE q37) hlt36 rfl) .nil) (eC q37 (sc B2 (.cons b31 .nil))) tb_ok ap_ok ?_
   refine all3 kr ?_ ?_ ?_
   ·
    intro vs ls H38 E38 st hE
    have f39 : w30 = true := bf st 0
    have gz : Grew H H38 := (Grew.trans g34 (gk st))
    simp [hw30] at f39
    have y0 := byN_at he16
    have y1 := byN_at he36
    have hv : rdV ms = ([], 5) := by
     unfold rdV; rw [if_neg om, if_neg (fun hh => by obtain ⟨h1, h2, h3, h4⟩ := hh; omega)]
    obtain ⟨pz, ez, rz, nz⟩ := sl_of st.inn hE 2 1 0 0 4 kr (ds := []) kr
    have oz : H.next ≤ pz := Nat.le_trans g34.next (nz (Nat.le_of_ble_eq_true rfl))
    have e7 : E38 3 = .int .i64 5 := env_of st.inn hE 3 kr
    exact res_ex kr (end_tmps (.inr rfl) ez e7 gz.next (by rw [hv]; exact ⟨gz, _, rfl, .sl (by simpa using rz) rfl (Nat.le_refl _), .of_le oz⟩))
   ·
    intro vs ls H40 E40 st hE
    have f41 : ¬ ((v36_0 : Int) = 68) := df st 0
    have f42 : w30 = false := bf st 1
    have gz : Grew H H40 := (Grew.trans g34 (gk st))
    simp [hw30] at f42
    have y0 := byN_at he16
    have y1 := byN_at he36
    have hv : rdV ms = ([], 5) := by
     unfold rdV; rw [if_neg om, if_neg (fun hh => by obtain ⟨h1, h2, h3, h4⟩ := hh; omega)]
    obtain ⟨pz, ez, rz, nz⟩ := sl_of st.inn hE 2 1 0 0 4 kr (ds := []) kr
    have oz : H.next ≤ pz := Nat.le_trans g34.next (nz (Nat.le_of_ble_eq_true rfl))
    have e7 : E40 3 = .int .i64 5 := env_of st.inn hE 3 kr
    exact res_ex kr (end_tmps (.inr rfl) ez e7 gz.next (by rw [hv]; exact ⟨gz, _, rfl, .sl (by simpa using rz) rfl (Nat.le_refl _), .of_le oz⟩))
   ·
    intro vs ls H43 E43 st hE
    have f44 : (v36_0 : Int) = 68 := dt st 0
    have f45 : w30 = false := bf st 1
    have B3 := es st hE [(30, S), (0, S)]
    have g48 : Grew H26 H43 := (gk st)
    have g49 := Grew.trans g34 g48
    have hlt51 : 2 < ms.length := by omega
    obtain ⟨lS51, cap51, rest51, wr51, eS51, gB51⟩ := hS.isSl hlt51
    have gS51 := g49.at gB51
    obtain ⟨v51_0, hm51, hb51⟩ := (rngParts hg hlt51)
    have he51 : ms.getD 2 [] = [.int .u8 (v51_0 : Int)] := by rw [← hm51, List.getD_eq_getElem?_getD, List.getElem?_eq_getElem hlt51]; rfl
    have q52 := q37.app (kL : KdsL [.int .u8] [.int .u8 (v51_0 : Int)])
    refine run_mc (φ := φ0) (pm := pmR 1 [(.ia 1 (n1 0) (.lit (.int .i64 2)), .ptr 0 0)] 0) 20 (ws := [⟨lS51, (2 * 1), [.nd 6 (.int .u8)], false⟩]) (env := [(30, n1 0), (0, n1 0)]) q52 (.cons (win_elem hg.recs gS51 hlt51 rfl (by rw [hm51]; exact (dL q52))) .nil) (sepOk_ro rfl) (.cons (rule_iaS (k := 2) (dE q52) eS51 (dE q52) hlt51 rfl) .nil) (eC q52 B3) tb_ok ap_ok ?_
    refine all1 kr fun vs ls H53 E53 st hE => ?_
    obtain ⟨w55, hw55⟩ : ∃ z, z = (IntKind.wrap .i64 (v51_0 : Int)) := ⟨_, rfl⟩
    have b56 : E53 33 = .int .i64 w55 := by rw [hw55]; exact eo st hE 33 _
    have B4 := es st hE [(34, S), (0, S)]
    have g58 : Grew H43 H53 := (gk st)
    have g59 := Grew.trans g49 g58
    have nw55 : w55 = ((v51_0 : Int)) := by
     rw [hw55]
     rw [show (IntKind.wrap .i64 (v51_0 : Int)) = (v51_0 : Int) from wrap_i64 om om]
    have hlt61 : 3 < ms.length := by omega
    obtain ⟨lS61, cap61, rest61, wr61, eS61, gB61⟩ := hS.isSl hlt61
    have gS61 := g59.at gB61
    obtain ⟨v61_0, hm61, hb61⟩ := (rngParts hg hlt61)
    have he61 : ms.getD 3 [] = [.int .u8 (v61_0 : Int)] := by rw [← hm61, List.getD_eq_getElem?_getD, List.getElem?_eq_getElem hlt61]; rfl
    have q62 := q52.app (kL : KdsL [KI, .int .u8, KI] [.int .i64 w55, .int .u8 (v61_0 : Int), .int .i64 (ms.length : Int)])
    refine run_mc (φ := φ0) (pm := pmR 1 [(.ia 1 (n1 0) (.lit (.int .i64 3)), .ptr 0 0), (.len (n1 0), nI 9)] 0) 20 (ws := [⟨lS61, (3 * 1), [.nd 8 (.int .u8)], false⟩]) (env := [(34, n1 0), (0, n1 0), (33, nI 7)]) q62 (.cons (win_elem hg.recs gS61 hlt61 rfl (by rw [hm61]; exact (dL q62))) .nil) (sepOk_ro rfl) (.cons (rule_iaS (k := 3) (dE q62) eS61 (dE q62) hlt61 rfl) (.cons (⟨_, _, (dE q62), (dE q62), slLen hS⟩) .nil)) (eC q62 (sc B4 (.cons b56 .nil))) tb_ok ap_ok ?_
    refine all2 kr ?_ ?_
    ·
     intro vs ls H63 E63 st hE
     have f64 : ¬ ((ms.length : Int) = (IntKind.wrap .i64 ((IntKind.wrap .i64 (10 * (IntKind.wrap .i64 (w55 + (IntKind.wrap .i64 (256 * (IntKind.wrap .i64 (v61_0 : Int)))))))) + 6))) := df st 0
     rw [show (IntKind.wrap .i64 (v61_0 : Int)) = (v61_0 : Int) from wrap_i64 om om] at f64
     rw [show (IntKind.wrap .i64 (256 * ((v61_0 : Int)))) = 256 * ((v61_0 : Int)) from wrap_i64 om om] at f64
     rw [show (IntKind.wrap .i64 (w55 + (256 * ((v61_0 : Int))))) = w55 + (256 * ((v61_0 : Int))) from wrap_i64 om om] at f64
     rw [show (IntKind.wrap .i64 (10 * (w55 + (256 * ((v61_0 : Int)))))) = 10 * (w55 + (256 * ((v61_0 : Int)))) from wrap_i64 om om] at f64
     rw [show (IntKind.wrap .i64 ((10 * (w55 + (256 * ((v61_0 : Int))))) + 6)) = (10 * (w55 + (256 * ((v61_0 : Int))))) + 6 from wrap_i64 om om] at f64
     have gz : Grew H H63 := (Grew.trans g59 (gk st))
     have y0 := byN_at he16
     have y1 := byN_at he36
     have y2 := byN_at he51
     have y3 := byN_at he61
     have hn2 : num2 ms 2 = (byN ms 2 : Int) + 256 * (byN ms 3 : Int) := rfl
     have hv : rdV ms = ([], 5) := by
      unfold rdV; rw [if_neg om, if_neg (fun hh => by obtain ⟨h1, h2, h3, h4⟩ := hh; omega)]
     obtain ⟨pz, ez, rz, nz⟩ := sl_of st.inn hE 2 1 0 0 4 kr (ds := []) kr
     have oz : H.next ≤ pz := Nat.le_trans g59.next (nz (Nat.le_of_ble_eq_true rfl))
     have e7 : E63 3 = .int .i64 5 := env_of st.inn hE 3 kr
     exact res_ex kr (end_tmps (.inr rfl) ez e7 gz.next (by rw [hv]; exact ⟨gz, _, rfl, .sl (by simpa using rz) rfl (Nat.le_refl _), .of_le oz⟩))
    ·
     intro vs ls H65 E65 st hE
     have f66 : (ms.length : Int) = (IntKind.wrap .i64 ((IntKind.wrap .i64 (10 * (IntKind.wrap .i64 (w55 + (IntKind.wrap .i64 (256 * (IntKind.wrap .i64 (v61_0 : Int)))))))) + 6)) := dt st 0
     rw [show (IntKind.wrap .i64 (v61_0 : Int)) = (v61_0 : Int) from wrap_i64 om om] at f66
     rw [show (IntKind.wrap .i64 (256 * ((v61_0 : Int)))) = 256 * ((v61_0 : Int)) from wrap_i64 om om] at f66
     rw [show (IntKind.wrap .i64 (w55 + (256 * ((v61_0 : Int))))) = w55 + (256 * ((v61_0 : Int))) from wrap_i64 om om] at f66
     rw [show (IntKind.wrap .i64 (10 * (w55 + (256 * ((v61_0 : Int)))))) = 10 * (w55 + (256 * ((v61_0 : Int)))) from wrap_i64 om om] at f66
     rw [show (IntKind.wrap .i64 ((10 * (w55 + (256 * ((v61_0 : Int))))) + 6)) = (10 * (w55 + (256 * ((v61_0 : Int))))) + 6 from wrap_i64 om om] at f66
     obtain ⟨p67, e68, r69, n70⟩ := sl_of st.inn hE 5 1 0 0 4 kr (ds := []) kr
     have op67 : H.next ≤ p67 := Nat.le_trans g59.next (oM n70)
     have ne71 := apn gS61 (oM n70)
     have b72 := eo st hE 6 (.int .i64 0)
     obtain ⟨w73, hw73⟩ : ∃ z, z = (IntKind.wrap .i64 (w55 + (IntKind.wrap .i64 (256 * (IntKind.wrap .i64 (v61_0 : Int)))))) := ⟨_, rfl⟩
     have b74 : E65 4 = .int .i64 w73 := by rw [hw73]; exact eo st hE 4 _
     have b75 := eo st hE 0 S
     have g76 : Grew H53 H65 := (gk st)
     have g77 := Grew.trans g59 g76
     have nw73 : w73 = (w55 + (256 * ((v61_0 : Int)))) := by
      rw [hw73]
      rw [show (IntKind.wrap .i64 (v61_0 : Int)) = (v61_0 : Int) from wrap_i64 om om]
      rw [show (IntKind.wrap .i64 (256 * ((v61_0 : Int)))) = 256 * ((v61_0 : Int)) from wrap_i64 om om]
      rw [show (IntKind.wrap .i64 (w55 + (256 * ((v61_0 : Int))))) = w55 + (256 * ((v61_0 : Int))) from wrap_i64 om om]
     refine res_loop kr (fun z E H' => ∃ (i : Nat) (acc79_0 : AV), z + i = (num2 ms 2).toNat ∧ E 4 = .int .i64 w73 ∧ E 0 = S ∧ E 6 = .int .i64 (i : Int) ∧ E 5 = acc79_0 ∧ Grew H H' ∧ SlF H' 4 (rdL ms i) acc79_0 ∧ FreshS H.next acc79_0) ((num2 ms 2).toNat) ⟨0, .slice p67 0 0 0 4, by omega, b74, b75, b72, e68, g77, (show SlF _ 4 [] _ from (.sl (by simpa [keepTo] using r69) rfl (Nat.le_refl _))), (FreshS.of_le op67)⟩ ?_
     rintro z79 Ei79 Hi79 ⟨i79, acc79_0, hz79, c79_4, c79_0, ci79, ca79_0, gt79, s79_0, f79_0⟩
     have hln79_0 : ((rdL ms i79)).length = i79 + 0 := rdL_len ms i79
     have y0 := byN_at he16
     have y1 := byN_at he36
     have y2 := byN_at he51
     have y3 := byN_at he61
     have hh : hdrR ms := ⟨by omega, by omega, by omega, show (ms.length : Int) = 10 * ((byN ms 2 : Int) + 256 * (byN ms 3 : Int)) + 6 by omega⟩
     have hn2 : num2 ms 2 = (byN ms 2 : Int) + 256 * (byN ms 3 : Int) := rfl
     obtain ⟨N, hN, hL⟩ := hdrR_get hh
     have hnN : (num2 ms 2).toNat = N := by omega
     have q80 := q62.app (kL : KdsL [KI, KI, .one] [.int .i64 w73, .int .i64 (i79 : Int), acc79_0])
     refine rC 0 8 [] [(4, nI 10), (0, n1 0), (6, nI 11), (5, n1 12)] q80 (.cons c79_4 (.cons c79_0 (.cons ci79 (.cons ca79_0 .nil)))) ?_
     refine all2 kr ?_ ?_
     ·
      intro vs ls H81 E81 st hE
      have f82 : (i79 : Int) < w73 := dt st 0
      obtain ⟨w84, hw84⟩ : ∃ z, z = (IntKind.wrap .i64 (4 + (IntKind.wrap .i64 (10 * (i79 : Int))))) := ⟨_, rfl⟩
      have b85 : E81 57 = .int .i64 w84 := by rw [hw84]; exact eo st hE 57 _
      have b87 : E81 7 = .int .i64 w84 := by rw [hw84]; exact eo st hE 7 _
      have B5 := es st hE [(56, S), (0, S), (5, acc79_0), (6, .int .i64 (i79 : Int)), (4, .int .i64 w73)]
      have g91 : Grew Hi79 H81 := (gk st)
      have g92 := Grew.trans gt79 g91
      have s93 := s79_0.grew g91
      have nw84 : w84 = (4 + (10 * (i79 : Int))) := by
       rw [hw84]
       rw [show (IntKind.wrap .i64 (10 * (i79 : Int))) = 10 * (i79 : Int) from wrap_i64 om om]
       rw [show (IntKind.wrap .i64 (4 + (10 * (i79 : Int)))) = 4 + (10 * (i79 : Int)) from wrap_i64 om om]
      obtain ⟨k94, rfl⟩ : ∃ k : Nat, w84 = (k : Int) := ⟨Int.toNat w84, by omega⟩
      have hlt95 : k94 < ms.length := by omega
      obtain ⟨lS95, cap95, rest95, wr95, eS95, gB95⟩ := hS.isSl hlt95
      have gS95 := g92.at gB95
      have ne96 : ApartL (acc79_0) lS95 := f79_0.apartL (H.lt_of_get gB95)
      obtain ⟨v95_0, hm95, hb95⟩ := (rngParts hg hlt95)
      have he95 : ms.getD k94 [] = [.int .u8 (v95_0 : Int)] := by rw [← hm95, List.getD_eq_getElem?_getD, List.getElem?_eq_getElem hlt95]; rfl
      have q97 := q80.app (kL : KdsL [KI, .int .u8] [.int .i64 (k94 : Int), .int .u8 (v95_0 : Int)])
      refine run_mc (φ := φ0) (pm := pmR 1 [(.ia 1 (n1 0) (nI 13), .ptr 0 0)] 8) 20 (ws := [⟨lS95, (k94 * 1), [.nd 14 (.int .u8)], false⟩]) (env := [(56, n1 0), (0, n1 0), (5, n1 12), (6, nI 11), (4, nI 10), (57, nI 13), (7, nI 13)]) q97 (.cons (win_elem hg.recs gS95 hlt95 rfl (by rw [hm95]; exact (dL q97))) .nil) (sepOk_ro rfl) (.cons (rule_iaS (k := k94) (dE q97) eS95 (dE q97) hlt95 rfl) .nil) (eC q97 (sc B5 (.cons b85 (.cons b87 .nil)))) tb_ok ap_ok ?_
      refine all1 kr fun vs ls H98 E98 st hE => ?_
      obtain ⟨w100, hw100⟩ : ∃ z, z = (IntKind.wrap .i64 ((k94 : Int) + 1)) := ⟨_, rfl⟩
      have b101 : E98 63 = .int .i64 w100 := by rw [hw100]; exact eo st hE 63 _
      obtain ⟨w102, hw102⟩ : ∃ z, z = (IntKind.wrap .i64 (v95_0 : Int)) := ⟨_, rfl⟩
      have b103 : E98 60 = .int .i64 w102 := by rw [hw102]; exact eo st hE 60 _
      have B6 := es st hE [(61, S), (0, S), (7, .int .i64 (k94 : Int)), (5, acc79_0), (6, .int .i64 (i79 : Int)), (4, .int .i64 w73)]
      have g109 : Grew H81 H98 := (gk st)
      have g110 := Grew.trans g92 g109
      have s112 := s93.grew g109
      have nw100 : w100 = ((k94 : Int) + 1) := by
       rw [hw100]
       rw [show (IntKind.wrap .i64 ((k94 : Int) + 1)) = (k94 : Int) + 1 from wrap_i64 om om]
      have nw102 : w102 = ((v95_0 : Int)) := by
       rw [hw102]
       rw [show (IntKind.wrap .i64 (v95_0 : Int)) = (v95_0 : Int) from wrap_i64 om om]
      obtain ⟨k113, rfl⟩ : ∃ k : Nat, w100 = (k : Int) := ⟨Int.toNat w100, by omega⟩
      have hlt114 : k113 < ms.length := by omega
      obtain ⟨lS114, cap114, rest114, wr114, eS114, gB114⟩ := hS.isSl hlt114
      have gS114 := g110.at gB114
      have ne115 : ApartL (acc79_0) lS114 := f79_0.apartL (H.lt_of_get gB114)
      obtain ⟨v114_0, hm114, hb114⟩ := (rngParts hg hlt114)
      have he114 : ms.getD k113 [] = [.int .u8 (v114_0 : Int)] := by rw [← hm114, List.getD_eq_getElem?_getD, List.getElem?_eq_getElem hlt114]; rfl
      have q116 := q97.app (kL : KdsL [KI, KI, .int .u8] [.int .i64 (k113 : Int), .int .i64 w102, .int .u8 (v114_0 : Int)])
      refine run_mc (φ := φ0) (pm := pmR 1 [(.ia 1 (n1 0) (nI 15), .ptr 0 0)] 8) 20 (ws := [⟨lS114, (k113 * 1), [.nd 17 (.int .u8)], false⟩]) (env := [(61, n1 0), (0, n1 0), (7, nI 13), (5, n1 12), (6, nI 11), (4, nI 10), (63, nI 15), (60, nI 16)]) q116 (.cons (win_elem hg.recs gS114 hlt114 rfl (by rw [hm114]; exact (dL q116))) .nil) (sepOk_ro rfl) (.cons (rule_iaS (k := k113) (dE q116) eS114 (dE q116) hlt114 rfl) .nil) (eC q116 (sc B6 (.cons b101 (.cons b103 .nil)))) tb_ok ap_ok ?_
      refine all1 kr fun vs ls H117 E117 st hE => ?_
      obtain ⟨w119, hw119⟩ : ∃ z, z = (IntKind.wrap .i64 ((k94 : Int) + 2)) := ⟨_, rfl⟩
      have b120 : E117 71 = .int .i64 w119 := by rw [hw119]; exact eo st hE 71 _
      obtain ⟨w121, hw121⟩ : ∃ z, z = (IntKind.wrap .i64 (w102 + (IntKind.wrap .i64 ((IntKind.wrap .i64 (v114_0 : Int)) * 2 ^ (min (Int.toNat 8) (IntKind.bits .i64)))))) := ⟨_, rfl⟩
      have b122 : E117 68 = .int .i64 w121 := by rw [hw121]; exact eo st hE 68 _
      have B7 := es st hE [(69, S), (0, S), (7, .int .i64 (k94 : Int)), (5, acc79_0), (6, .int .i64 (i79 : Int)), (4, .int .i64 w73)]
      have g128 : Grew H98 H117 := (gk st)
      have g129 := Grew.trans g110 g128
      have s131 := s112.grew g128
      have nw119 : w119 = ((k94 : Int) + 2) := by
       rw [hw119]
       rw [show (IntKind.wrap .i64 ((k94 : Int) + 2)) = (k94 : Int) + 2 from wrap_i64 om om]
      obtain ⟨k132, rfl⟩ : ∃ k : Nat, w119 = (k : Int) := ⟨Int.toNat w119, by omega⟩
      have hlt133 : k132 < ms.length := by omega
      obtain ⟨lS133, cap133, rest133, wr133, eS133, gB133⟩ := hS.isSl hlt133
      have gS133 := g129.at gB133
      have ne134 : ApartL (acc79_0) lS133 := f79_0.apartL (H.lt_of_get gB133)
      obtain ⟨v133_0, hm133, hb133⟩ := (rngParts hg hlt133)
      have he133 : ms.getD k132 [] = [.int .u8 (v133_0 : Int)] := by rw [← hm133, List.getD_eq_getElem?_getD, List.getElem?_eq_getElem hlt133]; rfl
      have q135 := q116.app (kL : KdsL [KI, KI, .int .u8] [.int .i64 (k132 : Int), .int .i64 w121, .int .u8 (v133_0 : Int)])
      refine run_mc (φ := φ0) (pm := pmR 1 [(.ia 1 (n1 0) (nI 18), .ptr 0 0)] 8) 20 (ws := [⟨lS133, (k132 * 1), [.nd 20 (.int .u8)], false⟩]) (env := [(69, n1 0), (0, n1 0), (7, nI 13), (5, n1 12), (6, nI 11), (4, nI 10), (71, nI 18), (68, nI 19)]) q135 (.cons (win_elem hg.recs gS133 hlt133 rfl (by rw [hm133]; exact (dL q135))) .nil) (sepOk_ro rfl) (.cons (rule_iaS (k := k132) (dE q135) eS133 (dE q135) hlt133 rfl) .nil) (eC q135 (sc B7 (.cons b120 (.cons b122 .nil)))) tb_ok ap_ok ?_
      refine all1 kr fun vs ls H136 E136 st hE => ?_
      obtain ⟨w138, hw138⟩ : ∃ z, z = (IntKind.wrap .i64 ((k94 : Int) + 3)) := ⟨_, rfl⟩
      have b139 : E136 79 = .int .i64 w138 := by rw [hw138]; exact eo st hE 79 _
      obtain ⟨w140, hw140⟩ : ∃ z, z = (IntKind.wrap .i64 (w121 + (IntKind.wrap .i64 ((IntKind.wrap .i64 (v133_0 : Int)) * 2 ^ (min (Int.toNat 16) (IntKind.bits .i64)))))) := ⟨_, rfl⟩
      have b141 : E136 76 = .int .i64 w140 := by rw [hw140]; exact eo st hE 76 _
      have B8 := es st hE [(77, S), (0, S), (7, .int .i64 (k94 : Int)), (5, acc79_0), (6, .int .i64 (i79 : Int)), (4, .int .i64 w73)]
      have g147 : Grew H117 H136 := (gk st)
      have g148 := Grew.trans g129 g147
      have s150 := s131.grew g147
      have nw138 : w138 = ((k94 : Int) + 3) := by
       rw [hw138]
       rw [show (IntKind.wrap .i64 ((k94 : Int) + 3)) = (k94 : Int) + 3 from wrap_i64 om om]
      obtain ⟨k151, rfl⟩ : ∃ k : Nat, w138 = (k : Int) := ⟨Int.toNat w138, by omega⟩
      have hlt152 : k151 < ms.length := by omega
      obtain ⟨lS152, cap152, rest152, wr152, eS152, gB152⟩ := hS.isSl hlt152
      have gS152 := g148.at gB152
      have ne153 : ApartL (acc79_0) lS152 := f79_0.apartL (H.lt_of_get gB152)
      obtain ⟨v152_0, hm152, hb152⟩ := (rngParts hg hlt152)
      have he152 : ms.getD k151 [] = [.int .u8 (v152_0 : Int)] := by rw [← hm152, List.getD_eq_getElem?_getD, List.getElem?_eq_getElem hlt152]; rfl
      have q154 := q135.app (kL : KdsL [KI, KI, .int .u8] [.int .i64 (k151 : Int), .int .i64 w140, .int .u8 (v152_0 : Int)])
      refine run_mc (φ := φ0) (pm := pmR 1 [(.ia 1 (n1 0) (nI 21), .ptr 0 0)] 8) 20 (ws := [⟨lS152, (k151 * 1), [.nd 23 (.int .u8)], false⟩]) (env := [(77, n1 0), (0, n1 0), (7, nI 13), (5, n1 12), (6, nI 11), (4, nI 10), (79, nI 21), (76, nI 22)]) q154 (.cons (win_elem hg.recs gS152 hlt152 rfl (by rw [hm152]; exact (dL q154))) .nil) (sepOk_ro rfl) (.cons (rule_iaS (k := k151) (dE q154) eS152 (dE q154) hlt152 rfl) .nil) (eC q154 (sc B8 (.cons b139 (.cons b141 .nil)))) tb_ok ap_ok ?_
      refine all1 kr fun vs ls H155 E155 st hE => ?_
      obtain ⟨w156, hw156⟩ : ∃ z, z = (IntKind.wrap .i64 (w140 + (IntKind.wrap .i64 ((IntKind.wrap .i64 (v152_0 : Int)) * 2 ^ (min (Int.toNat 24) (IntKind.bits .i64)))))) := ⟨_, rfl⟩
      obtain ⟨p157, e158, r159, n160⟩ := pO st hE 8 1 [.int .i64 (IntKind.wrap .i64 (w140 + (IntKind.wrap .i64 ((IntKind.wrap .i64 (v152_0 : Int)) * 2 ^ (min (Int.toNat 24) (IntKind.bits .i64)))))), .int .i16 0, .int .i16 0, .int .i16 0]
      rw [← hw156] at r159
      have op157 : H.next ≤ p157 := Nat.le_trans g148.next (oM n160)
      have ne161 := apn gS152 (oM n160)
      have ne162 : ApartL (acc79_0) p157 := s150.apart_new (oM n160)
      obtain ⟨w164, hw164⟩ : ∃ z, z = (IntKind.wrap .i64 ((IntKind.wrap .i64 ((k94 : Int) + 4)) + 0)) := ⟨_, rfl⟩
      have b165 : E155 96 = .int .i64 w164 := by rw [hw164]; exact eo st hE 96 _
      obtain ⟨w174, hw174⟩ : ∃ z, z = (IntKind.wrap .i64 ((k94 : Int) + 4)) := ⟨_, rfl⟩
      have b175 : E155 93 = .int .i64 w174 := by rw [hw174]; exact eo st hE 93 _
      have B9 := es st hE [(91, S), (0, S), (7, .int .i64 (k94 : Int)), (9, .int .i64 0), (90, .int .i64 0), (86, .int .i64 0), (87, .bool true), (92, .int .i64 (k94 : Int)), (94, .int .i64 0), (95, .int .i64 0), (5, acc79_0), (6, .int .i64 (i79 : Int)), (4, .int .i64 w73)]
      have g180 : Grew H136 H155 := (gk st)
      have g181 := Grew.trans g148 g180
      have s183 := s150.grew g180
      have nw164 : w164 = (((k94 : Int) + 4) + 0) := by
       rw [hw164]
       rw [show (IntKind.wrap .i64 ((k94 : Int) + 4)) = (k94 : Int) + 4 from wrap_i64 om om]
       rw [show (IntKind.wrap .i64 (((k94 : Int) + 4) + 0)) = ((k94 : Int) + 4) + 0 from wrap_i64 om om]
      have nw174 : w174 = ((k94 : Int) + 4) := by
       rw [hw174]
       rw [show (IntKind.wrap .i64 ((k94 : Int) + 4)) = (k94 : Int) + 4 from wrap_i64 om om]
      obtain ⟨k184, rfl⟩ : ∃ k : Nat, w164 = (k : Int) := ⟨Int.toNat w164, by omega⟩
      have hlt185 : k184 < ms.length := by omega
      obtain ⟨lS185, cap185, rest185, wr185, eS185, gB185⟩ := hS.isSl hlt185
      have gS185 := g181.at gB185
      have ne186 := apn gB185 op157
      have ne187 : ApartL (acc79_0) lS185 := f79_0.apartL (H.lt_of_get gB185)
      obtain ⟨v185_0, hm185, hb185⟩ := (rngParts hg hlt185)
      have he185 : ms.getD k184 [] = [.int .u8 (v185_0 : Int)] := by rw [← hm185, List.getD_eq_getElem?_getD, List.getElem?_eq_getElem hlt185]; rfl
      have q188 := q154.app (kL : KdsL [KI, KI, KI, .int .u8] [.int .i64 w156, .int .i64 (k184 : Int), .int .i64 w174, .int .u8 (v185_0 : Int)])
      refine run_mc (φ := φ0) (pm := pmR 2 [(.ia 1 (n1 0) (nI 25), .ptr 1 0)] 8) 20 (ws := [wf p157 [nI 24, .lit (.int .i16 0), .lit (.int .i16 0), .lit (.int .i16 0)], ⟨lS185, (k184 * 1), [.nd 27 (.int .u8)], false⟩]) (env := [(91, n1 0), (0, n1 0), (7, nI 13), (9, .lit (.int .i64 0)), (90, .lit (.int .i64 0)), (86, .lit (.int .i64 0)), (87, .lit (.bool true)), (92, nI 13), (94, .lit (.int .i64 0)), (95, .lit (.int .i64 0)), (5, n1 12), (6, nI 11), (4, nI 10), (96, nI 25), (8, .ptr 0 0), (93, nI 26)]) q188 (.cons (wR r159 q188) (.cons (win_elem hg.recs gS185 hlt185 rfl (by rw [hm185]; exact (dL q188))) .nil)) (sepOk_ro rfl) (.cons (rule_iaS (k := k184) (dE q188) eS185 (dE q188) hlt185 rfl) .nil) (eC q188 (sc B9 (.cons b165 (.cons e158 (.cons b175 .nil))))) tb_ok ap_ok ?_
      refine all1 kr fun vs ls H189 E189 st hE => ?_
      obtain ⟨w191, hw191⟩ : ∃ z, z = (IntKind.wrap .i64 ((IntKind.wrap .i64 ((k94 : Int) + 5)) + 0)) := ⟨_, rfl⟩
      have b192 : E189 105 = .int .i64 w191 := by rw [hw191]; exact eo st hE 105 _
      obtain ⟨w193, hw193⟩ : ∃ z, z = (IntKind.wrap .u16 (v185_0 : Int)) := ⟨_, rfl⟩
      have b194 : E189 99 = .int .u16 w193 := by rw [hw193]; exact eo st hE 99 _
      obtain ⟨w212, hw212⟩ : ∃ z, z = (IntKind.wrap .i64 ((k94 : Int) + 5)) := ⟨_, rfl⟩
      have b213 : E189 102 = .int .i64 w212 := by rw [hw212]; exact eo st hE 102 _
      have B10 := es st hE [(100, S), (8, .ptr p157 0), (90, .int .i64 0), (9, .int .i64 0), (86, .int .i64 0), (87, .bool true), (0, S), (7, .int .i64 (k94 : Int)), (92, .int .i64 (k94 : Int)), (94, .int .i64 0), (93, .int .i64 w174), (95, .int .i64 0), (91, S), (96, .int .i64 (k184 : Int)), (97, .ptr lS185 ((k184 * 1) + 0)), (98, .int .u8 (v185_0 : Int)), (101, .int .i64 (k94 : Int)), (103, .int .i64 0), (104, .int .i64 0), (5, acc79_0), (6, .int .i64 (i79 : Int)), (4, .int .i64 w73)]
      have g218 : Grew H155 H189 := (gk st)
      have g219 := Grew.trans g181 g218
      have r220 := g218.at r159
      have r221 := g218.at gS185
      have s222 := s183.grew g218
      have nw191 : w191 = (((k94 : Int) + 5) + 0) := by
       rw [hw191]
       rw [show (IntKind.wrap .i64 ((k94 : Int) + 5)) = (k94 : Int) + 5 from wrap_i64 om om]
       rw [show (IntKind.wrap .i64 (((k94 : Int) + 5) + 0)) = ((k94 : Int) + 5) + 0 from wrap_i64 om om]
      have nw212 : w212 = ((k94 : Int) + 5) := by
       rw [hw212]
       rw [show (IntKind.wrap .i64 ((k94 : Int) + 5)) = (k94 : Int) + 5 from wrap_i64 om om]
      obtain ⟨k223, rfl⟩ : ∃ k : Nat, w191 = (k : Int) := ⟨Int.toNat w191, by omega⟩
      have hlt224 : k223 < ms.length := by omega
      obtain ⟨lS224, cap224, rest224, wr224, eS224, gB224⟩ := hS.isSl hlt224
      have gS224 := g219.at gB224
      have ne225 := apn gB224 op157
      have ne226 : ApartL (acc79_0) lS224 := f79_0.apartL (H.lt_of_get gB224)
      obtain ⟨v224_0, hm224, hb224⟩ := (rngParts hg hlt224)
      have he224 : ms.getD k223 [] = [.int .u8 (v224_0 : Int)] := by rw [← hm224, List.getD_eq_getElem?_getD, List.getElem?_eq_getElem hlt224]; rfl
      have q227 := q188.app (kL : KdsL [KI, .int .u16, KI, .int .u8] [.int .i64 (k223 : Int), .int .u16 w193, .int .i64 w212, .int .u8 (v224_0 : Int)])
      refine run_mc (φ := φ0) (pm := pmR 2 [] 8) 20 (ws := [⟨lS185, (k184 * 1), [.nd 27 (.int .u8)], false⟩, ⟨lS224, (k223 * 1), [.nd 31 (.int .u8)], false⟩, ⟨p157, 0, [nI 24, .lit (.int .i16 0), .lit (.int .i16 0), .lit (.int .i16 0)], true⟩]) (env := [(100, n1 0), (8, .ptr 2 0), (90, .lit (.int .i64 0)), (9, .lit (.int .i64 0)), (86, .lit (.int .i64 0)), (87, .lit (.bool true)), (0, n1 0), (7, nI 13), (92, nI 13), (94, .lit (.int .i64 0)), (93, nI 26), (95, .lit (.int .i64 0)), (91, n1 0), (96, nI 25), (97, .ptr 0 0), (98, .nd 27 (.int .u8)), (101, nI 13), (103, .lit (.int .i64 0)), (104, .lit (.int .i64 0)), (5, n1 12), (6, nI 11), (4, nI 10), (105, nI 28), (99, .nd 29 (.int .u16)), (102, nI 30)]) q227 (.cons (win_elem hg.recs r221 hlt185 rfl (by rw [hm185]; exact (dL q227))) (.cons (win_elem hg.recs gS224 hlt224 rfl (by rw [hm224]; exact (dL q227))) wA)) sd .nil (eC q227 (sc B10 (.cons b192 (.cons b194 (.cons b213 .nil))))) tb_ok ap_ok ?_
      refine all1 kr fun vs ls H228 E228 st hE => ?_
      have B11 := es st hE [(100, S), (105, .int .i64 (k223 : Int)), (99, .int .u16 w193), (8, .ptr p157 0), (90, .int .i64 0), (9, .int .i64 0), (86, .int .i64 0), (87, .bool true), (0, S), (7, .int .i64 (k94 : Int)), (92, .int .i64 (k94 : Int)), (94, .int .i64 0), (93, .int .i64 w174), (95, .int .i64 0), (91, S), (96, .int .i64 (k184 : Int)), (97, .ptr lS185 ((k184 * 1) + 0)), (98, .int .u8 (v185_0 : Int)), (101, .int .i64 (k94 : Int)), (103, .int .i64 0), (102, .int .i64 w212), (104, .int .i64 0), (5, acc79_0), (6, .int .i64 (i79 : Int)), (4, .int .i64 w73)]
      have g254 : Grew H189 H228 := (gk st)
      have g255 := Grew.trans g219 g254
      have r256 := g254.at r221
      have r258 := g254.at r220
      have s259 := s222.grew g254
      have hlt260 : k223 < ms.length := by omega
      obtain ⟨lS260, cap260, rest260, wr260, eS260, gB260⟩ := hS.isSl hlt260
      have gS260 := g255.at gB260
      have ne261 := apn gB260 op157
      have ne262 : ApartL (acc79_0) lS260 := f79_0.apartL (H.lt_of_get gB260)
      obtain ⟨v260_0, hm260, hb260⟩ := (rngParts hg hlt260)
      have he260 : ms.getD k223 [] = [.int .u8 (v260_0 : Int)] := by rw [← hm260, List.getD_eq_getElem?_getD, List.getElem?_eq_getElem hlt260]; rfl
      have q263 := q227.app (kL : KdsL [.int .u8] [.int .u8 (v260_0 : Int)])
      refine run_mc (φ := φ0) (pm := pmR 2 [(.ia 1 (n1 0) (nI 28), .ptr 1 0)] 8) 20 (ws := [⟨lS185, (k184 * 1), [.nd 27 (.int .u8)], false⟩, ⟨lS260, (k223 * 1), [.nd 32 (.int .u8)], false⟩, ⟨p157, 0, [nI 24, .lit (.int .i16 0), .lit (.int .i16 0), .lit (.int .i16 0)], true⟩]) (env := [(100, n1 0), (105, nI 28), (99, .nd 29 (.int .u16)), (8, .ptr 2 0), (90, .lit (.int .i64 0)), (9, .lit (.int .i64 0)), (86, .lit (.int .i64 0)), (87, .lit (.bool true)), (0, n1 0), (7, nI 13), (92, nI 13), (94, .lit (.int .i64 0)), (93, nI 26), (95, .lit (.int .i64 0)), (91, n1 0), (96, nI 25), (97, .ptr 0 0), (98, .nd 27 (.int .u8)), (101, nI 13), (103, .lit (.int .i64 0)), (102, nI 30), (104, .lit (.int .i64 0)), (5, n1 12), (6, nI 11), (4, nI 10)]) q263 (.cons (win_elem hg.recs r256 hlt185 rfl (by rw [hm185]; exact (dL q263))) (.cons (win_elem hg.recs gS260 hlt260 rfl (by rw [hm260]; exact (dL q263))) wA)) sd (.cons (rule_iaS (k := k223) (dE q263) eS260 (dE q263) hlt260 rfl) .nil) (eC q263 B11) tb_ok ap_ok ?_
      refine all1 kr fun vs ls H264 E264 st hE => ?_
      obtain ⟨w265, hw265⟩ : ∃ z, z = (IntKind.wrap .i16 (IntKind.wrap .u16 (w193 + (IntKind.wrap .u16 ((IntKind.wrap .u16 (v260_0 : Int)) * 2 ^ (min (Int.toNat 8) (IntKind.bits .u16))))))) := ⟨_, rfl⟩
      have r266 : H264.get p157 = some (.row [.int .i64 w156, .int .i16 (IntKind.wrap .i16 (IntKind.wrap .u16 (w193 + (IntKind.wrap .u16 ((IntKind.wrap .u16 (v260_0 : Int)) * 2 ^ (min (Int.toNat 8) (IntKind.bits .u16))))))), .int .i16 0, .int .i16 0] true) := rW st 2
      rw [← hw265] at r266
      obtain ⟨w268, hw268⟩ : ∃ z, z = (IntKind.wrap .i64 ((IntKind.wrap .i64 ((k94 : Int) + 4)) + 2)) := ⟨_, rfl⟩
      have b269 : E264 96 = .int .i64 w268 := by rw [hw268]; exact eo st hE 96 _
      obtain ⟨w283, hw283⟩ : ∃ z, z = (IntKind.wrap .u16 (v260_0 : Int)) := ⟨_, rfl⟩
      have b284 : E264 108 = .int .u16 w283 := by rw [hw283]; exact eo st hE 108 _
      obtain ⟨w286, hw286⟩ : ∃ z, z = (IntKind.wrap .u16 ((IntKind.wrap .u16 (v260_0 : Int)) * 2 ^ (min (Int.toNat 8) (IntKind.bits .u16)))) := ⟨_, rfl⟩
      have b287 : E264 109 = .int .u16 w286 := by rw [hw286]; exact eo st hE 109 _
      obtain ⟨w288, hw288⟩ : ∃ z, z = (IntKind.wrap .u16 (w193 + (IntKind.wrap .u16 ((IntKind.wrap .u16 (v260_0 : Int)) * 2 ^ (min (Int.toNat 8) (IntKind.bits .u16)))))) := ⟨_, rfl⟩
      have b289 : E264 110 = .int .u16 w288 := by rw [hw288]; exact eo st hE 110 _
      have b294 : E264 111 = .int .i16 w265 := by rw [hw265]; exact eo st hE 111 _
      obtain ⟨w301, hw301⟩ : ∃ z, z = (IntKind.wrap .i64 ((k94 : Int) + 4)) := ⟨_, rfl⟩
      have b302 : E264 93 = .int .i64 w301 := by rw [hw301]; exact eo st hE 93 _
      have B12 := es st hE [(91, S), (97, .ptr lS185 ((k184 * 1) + 0)), (98, .int .u8 (v185_0 : Int)), (0, S), (7, .int .i64 (k94 : Int)), (101, .int .i64 (k94 : Int)), (9, .int .i64 1), (103, .int .i64 0), (102, .int .i64 w212), (104, .int .i64 0), (100, S), (105, .int .i64 (k223 : Int)), (106, .ptr lS260 ((k223 * 1) + 0)), (107, .int .u8 (v260_0 : Int)), (99, .int .u16 w193), (8, .ptr p157 0), (112, .ptr p157 1), (90, .int .i64 1), (113, .ptr p157 1), (88, .int .i64 0), (89, .int .i64 1), (86, .int .i64 1), (87, .bool true), (92, .int .i64 (k94 : Int)), (94, .int .i64 1), (95, .int .i64 2), (5, acc79_0), (6, .int .i64 (i79 : Int)), (4, .int .i64 w73)]
      have g308 : Grew H H264 := grew_own g255 st.inn.kept ⟨op157, trivial⟩
      have r309 := kept_at st.inn.kept r256 ⟨aS, trivial⟩
      have r310 := kept_at st.inn.kept gS260 ⟨aS, trivial⟩
      have s311 := s259.keep st.inn.kept ⟨by assumption, trivial⟩
      have nw268 : w268 = (((k94 : Int) + 4) + 2) := by
       rw [hw268]
       rw [show (IntKind.wrap .i64 ((k94 : Int) + 4)) = (k94 : Int) + 4 from wrap_i64 om om]
       rw [show (IntKind.wrap .i64 (((k94 : Int) + 4) + 2)) = ((k94 : Int) + 4) + 2 from wrap_i64 om om]
      have nw301 : w301 = ((k94 : Int) + 4) := by
       rw [hw301]
       rw [show (IntKind.wrap .i64 ((k94 : Int) + 4)) = (k94 : Int) + 4 from wrap_i64 om om]
      obtain ⟨k312, rfl⟩ : ∃ k : Nat, w268 = (k : Int) := ⟨Int.toNat w268, by omega⟩
      have hlt313 : k312 < ms.length := by omega
      obtain ⟨lS313, cap313, rest313, wr313, eS313, gB313⟩ := hS.isSl hlt313
      have gS313 := g308.at gB313
      have ne314 := apn gB313 op157
      have ne315 : ApartL (acc79_0) lS313 := f79_0.apartL (H.lt_of_get gB313)
      obtain ⟨v313_0, hm313, hb313⟩ := (rngParts hg hlt313)
      have he313 : ms.getD k312 [] = [.int .u8 (v313_0 : Int)] := by rw [← hm313, List.getD_eq_getElem?_getD, List.getElem?_eq_getElem hlt313]; rfl
      have q316 := q263.app (kL : KdsL [.int .i16, KI, .int .u16, .int .u16, .int .u16, KI, .int .u8] [.int .i16 w265, .int .i64 (k312 : Int), .int .u16 w283, .int .u16 w286, .int .u16 w288, .int .i64 w301, .int .u8 (v313_0 : Int)])
      refine run_mc (φ := φ0) (pm := pmR 3 [(.ia 1 (n1 0) (nI 34), .ptr 2 0)] 8) 20 (ws := [⟨lS185, (k184 * 1), [.nd 27 (.int .u8)], false⟩, ⟨lS260, (k223 * 1), [.nd 32 (.int .u8)], false⟩, ⟨lS313, (k312 * 1), [.nd 39 (.int .u8)], false⟩, ⟨p157, 0, [nI 24, .nd 33 (.int .i16), .lit (.int .i16 0), .lit (.int .i16 0)], true⟩]) (env := [(91, n1 0), (97, .ptr 0 0), (98, .nd 27 (.int .u8)), (0, n1 0), (7, nI 13), (101, nI 13), (9, .lit (.int .i64 1)), (103, .lit (.int .i64 0)), (102, nI 30), (104, .lit (.int .i64 0)), (100, n1 0), (105, nI 28), (106, .ptr 1 0), (107, .nd 32 (.int .u8)), (99, .nd 29 (.int .u16)), (8, .ptr 3 0), (112, .ptr 3 1), (90, .lit (.int .i64 1)), (113, .ptr 3 1), (88, .lit (.int .i64 0)), (89, .lit (.int .i64 1)), (86, .lit (.int .i64 1)), (87, .lit (.bool true)), (92, nI 13), (94, .lit (.int .i64 1)), (95, .lit (.int .i64 2)), (5, n1 12), (6, nI 11), (4, nI 10), (96, nI 34), (108, .nd 35 (.int .u16)), (109, .nd 36 (.int .u16)), (110, .nd 37 (.int .u16)), (111, .nd 33 (.int .i16)), (93, nI 38)]) q316 (.cons (win_elem hg.recs r309 hlt185 rfl (by rw [hm185]; exact (dL q316))) (.cons (win_elem hg.recs r310 hlt260 rfl (by rw [hm260]; exact (dL q316))) (.cons (win_elem hg.recs gS313 hlt313 rfl (by rw [hm313]; exact (dL q316))) wA))) sd (.cons (rule_iaS (k := k312) (dE q316) eS313 (dE q316) hlt313 rfl) .nil) (eC q316 (sc B12 (.cons b269 (.cons b284 (.cons b287 (.cons b289 (.cons b294 (.cons b302 .nil)))))))) tb_ok ap_ok ?_
      refine all1 kr fun vs ls H317 E317 st hE => ?_
      obtain ⟨w319, hw319⟩ : ∃ z, z = (IntKind.wrap .i64 ((IntKind.wrap .i64 ((k94 : Int) + 5)) + 2)) := ⟨_, rfl⟩
      have b320 : E317 105 = .int .i64 w319 := by rw [hw319]; exact eo st hE 105 _
      obtain ⟨w324, hw324⟩ : ∃ z, z = (IntKind.wrap .u16 (v313_0 : Int)) := ⟨_, rfl⟩
      have b325 : E317 99 = .int .u16 w324 := by rw [hw324]; exact eo st hE 99 _
      obtain ⟨w350, hw350⟩ : ∃ z, z = (IntKind.wrap .i64 ((k94 : Int) + 5)) := ⟨_, rfl⟩
      have b351 : E317 102 = .int .i64 w350 := by rw [hw350]; exact eo st hE 102 _
      have B13 := es st hE [(100, S), (106, .ptr lS260 ((k223 * 1) + 0)), (107, .int .u8 (v260_0 : Int)), (108, .int .u16 w283), (109, .int .u16 w286), (110, .int .u16 w288), (8, .ptr p157 0), (112, .ptr p157 1), (90, .int .i64 1), (113, .ptr p157 1), (111, .int .i16 w265), (9, .int .i64 1), (88, .int .i64 0), (89, .int .i64 1), (86, .int .i64 1), (87, .bool true), (0, S), (7, .int .i64 (k94 : Int)), (92, .int .i64 (k94 : Int)), (94, .int .i64 1), (93, .int .i64 w301), (95, .int .i64 2), (91, S), (96, .int .i64 (k312 : Int)), (97, .ptr lS313 ((k312 * 1) + 0)), (98, .int .u8 (v313_0 : Int)), (101, .int .i64 (k94 : Int)), (103, .int .i64 1), (104, .int .i64 2), (5, acc79_0), (6, .int .i64 (i79 : Int)), (4, .int .i64 w73)]
      have g356 : Grew H264 H317 := (gk st)
      have g357 := Grew.trans g308 g356
      have r359 := g356.at r310
      have r360 := g356.at gS313
      have r361 := g356.at r266
      have s362 := s311.grew g356
      have nw319 : w319 = (((k94 : Int) + 5) + 2) := by
       rw [hw319]
       rw [show (IntKind.wrap .i64 ((k94 : Int) + 5)) = (k94 : Int) + 5 from wrap_i64 om om]
       rw [show (IntKind.wrap .i64 (((k94 : Int) + 5) + 2)) = ((k94 : Int) + 5) + 2 from wrap_i64 om om]
      have nw350 : w350 = ((k94 : Int) + 5) := by
       rw [hw350]
       rw [show (IntKind.wrap .i64 ((k94 : Int) + 5)) = (k94 : Int) + 5 from wrap_i64 om om]
      obtain ⟨k363, rfl⟩ : ∃ k : Nat, w319 = (k : Int) := ⟨Int.toNat w319, by omega⟩
      have hlt364 : k363 < ms.length := by omega
      obtain ⟨lS364, cap364, rest364, wr364, eS364, gB364⟩ := hS.isSl hlt364
      have gS364 := g357.at gB364
      have ne365 := apn gB364 op157
      have ne366 : ApartL (acc79_0) lS364 := f79_0.apartL (H.lt_of_get gB364)
      obtain ⟨v364_0, hm364, hb364⟩ := (rngParts hg hlt364)
      have he364 : ms.getD k363 [] = [.int .u8 (v364_0 : Int)] := by rw [← hm364, List.getD_eq_getElem?_getD, List.getElem?_eq_getElem hlt364]; rfl
      have q367 := q316.app (kL : KdsL [KI, .int .u16, KI, .int .u8] [.int .i64 (k363 : Int), .int .u16 w324, .int .i64 w350, .int .u8 (v364_0 : Int)])
      refine run_mc (φ := φ0) (pm := pmR 3 [(.ia 1 (n1 0) (nI 40), .ptr 2 0)] 8) 20 (ws := [⟨lS260, (k223 * 1), [.nd 32 (.int .u8)], false⟩, ⟨lS313, (k312 * 1), [.nd 39 (.int .u8)], false⟩, ⟨lS364, (k363 * 1), [.nd 43 (.int .u8)], false⟩, ⟨p157, 0, [nI 24, .nd 33 (.int .i16), .lit (.int .i16 0), .lit (.int .i16 0)], true⟩]) (env := [(100, n1 0), (106, .ptr 0 0), (107, .nd 32 (.int .u8)), (108, .nd 35 (.int .u16)), (109, .nd 36 (.int .u16)), (110, .nd 37 (.int .u16)), (8, .ptr 3 0), (112, .ptr 3 1), (90, .lit (.int .i64 1)), (113, .ptr 3 1), (111, .nd 33 (.int .i16)), (9, .lit (.int .i64 1)), (88, .lit (.int .i64 0)), (89, .lit (.int .i64 1)), (86, .lit (.int .i64 1)), (87, .lit (.bool true)), (0, n1 0), (7, nI 13), (92, nI 13), (94, .lit (.int .i64 1)), (93, nI 38), (95, .lit (.int .i64 2)), (91, n1 0), (96, nI 34), (97, .ptr 1 0), (98, .nd 39 (.int .u8)), (101, nI 13), (103, .lit (.int .i64 1)), (104, .lit (.int .i64 2)), (5, n1 12), (6, nI 11), (4, nI 10), (105, nI 40), (99, .nd 41 (.int .u16)), (102, nI 42)]) q367 (.cons (win_elem hg.recs r359 hlt260 rfl (by rw [hm260]; exact (dL q367))) (.cons (win_elem hg.recs r360 hlt313 rfl (by rw [hm313]; exact (dL q367))) (.cons (win_elem hg.recs gS364 hlt364 rfl (by rw [hm364]; exact (dL q367))) wA))) sd (.cons (rule_iaS (k := k363) (dE q367) eS364 (dE q367) hlt364 rfl) .nil) (eC q367 (sc B13 (.cons b320 (.cons b325 (.cons b351 .nil))))) tb_ok ap_ok ?_
      refine all1 kr fun vs ls H368 E368 st hE => ?_
      obtain ⟨w369, hw369⟩ : ∃ z, z = (IntKind.wrap .i16 (IntKind.wrap .u16 (w324 + (IntKind.wrap .u16 ((IntKind.wrap .u16 (v364_0 : Int)) * 2 ^ (min (Int.toNat 8) (IntKind.bits .u16))))))) := ⟨_, rfl⟩
      have r370 : H368.get p157 = some (.row [.int .i64 w156, .int .i16 w265, .int .i16 (IntKind.wrap .i16 (IntKind.wrap .u16 (w324 + (IntKind.wrap .u16 ((IntKind.wrap .u16 (v364_0 : Int)) * 2 ^ (min (Int.toNat 8) (IntKind.bits .u16))))))), .int .i16 0] true) := rW st 3
      rw [← hw369] at r370
      obtain ⟨w372, hw372⟩ : ∃ z, z = (IntKind.wrap .i64 ((IntKind.wrap .i64 ((k94 : Int) + 4)) + 4)) := ⟨_, rfl⟩
      have b373 : E368 96 = .int .i64 w372 := by rw [hw372]; exact eo st hE 96 _
      obtain ⟨w387, hw387⟩ : ∃ z, z = (IntKind.wrap .u16 (v364_0 : Int)) := ⟨_, rfl⟩
      have b388 : E368 108 = .int .u16 w387 := by rw [hw387]; exact eo st hE 108 _
      obtain ⟨w390, hw390⟩ : ∃ z, z = (IntKind.wrap .u16 ((IntKind.wrap .u16 (v364_0 : Int)) * 2 ^ (min (Int.toNat 8) (IntKind.bits .u16)))) := ⟨_, rfl⟩
      have b391 : E368 109 = .int .u16 w390 := by rw [hw390]; exact eo st hE 109 _
      obtain ⟨w392, hw392⟩ : ∃ z, z = (IntKind.wrap .u16 (w324 + (IntKind.wrap .u16 ((IntKind.wrap .u16 (v364_0 : Int)) * 2 ^ (min (Int.toNat 8) (IntKind.bits .u16)))))) := ⟨_, rfl⟩
      have b393 : E368 110 = .int .u16 w392 := by rw [hw392]; exact eo st hE 110 _
      have b398 : E368 111 = .int .i16 w369 := by rw [hw369]; exact eo st hE 111 _
      obtain ⟨w405, hw405⟩ : ∃ z, z = (IntKind.wrap .i64 ((k94 : Int) + 4)) := ⟨_, rfl⟩
      have b406 : E368 93 = .int .i64 w405 := by rw [hw405]; exact eo st hE 93 _
      have B14 := es st hE [(91, S), (97, .ptr lS313 ((k312 * 1) + 0)), (98, .int .u8 (v313_0 : Int)), (0, S), (7, .int .i64 (k94 : Int)), (101, .int .i64 (k94 : Int)), (9, .int .i64 2), (103, .int .i64 1), (102, .int .i64 w350), (104, .int .i64 2), (100, S), (105, .int .i64 (k363 : Int)), (106, .ptr lS364 ((k363 * 1) + 0)), (107, .int .u8 (v364_0 : Int)), (99, .int .u16 w324), (8, .ptr p157 0), (112, .ptr p157 1), (90, .int .i64 2), (113, .ptr p157 2), (88, .int .i64 1), (89, .int .i64 2), (86, .int .i64 2), (87, .bool true), (92, .int .i64 (k94 : Int)), (94, .int .i64 2), (95, .int .i64 4), (5, acc79_0), (6, .int .i64 (i79 : Int)), (4, .int .i64 w73)]
      have g412 : Grew H H368 := grew_own g357 st.inn.kept ⟨op157, trivial⟩
      have r414 := kept_at st.inn.kept r360 ⟨aS, trivial⟩
      have r415 := kept_at st.inn.kept gS364 ⟨aS, trivial⟩
      have s416 := s362.keep st.inn.kept ⟨by assumption, trivial⟩
      have nw372 : w372 = (((k94 : Int) + 4) + 4) := by
       rw [hw372]
       rw [show (IntKind.wrap .i64 ((k94 : Int) + 4)) = (k94 : Int) + 4 from wrap_i64 om om]
       rw [show (IntKind.wrap .i64 (((k94 : Int) + 4) + 4)) = ((k94 : Int) + 4) + 4 from wrap_i64 om om]
      have nw405 : w405 = ((k94 : Int) + 4) := by
       rw [hw405]
       rw [show (IntKind.wrap .i64 ((k94 : Int) + 4)) = (k94 : Int) + 4 from wrap_i64 om om]
      obtain ⟨k417, rfl⟩ : ∃ k : Nat, w372 = (k : Int) := ⟨Int.toNat w372, by omega⟩
      have hlt418 : k417 < ms.length := by omega
      obtain ⟨lS418, cap418, rest418, wr418, eS418, gB418⟩ := hS.isSl hlt418
      have gS418 := g412.at gB418
      have ne419 := apn gB418 op157
      have ne420 : ApartL (acc79_0) lS418 := f79_0.apartL (H.lt_of_get gB418)
      obtain ⟨v418_0, hm418, hb418⟩ := (rngParts hg hlt418)
      have he418 : ms.getD k417 [] = [.int .u8 (v418_0 : Int)] := by rw [← hm418, List.getD_eq_getElem?_getD, List.getElem?_eq_getElem hlt418]; rfl
      have q421 := q367.app (kL : KdsL [.int .i16, KI, .int .u16, .int .u16, .int .u16, KI, .int .u8] [.int .i16 w369, .int .i64 (k417 : Int), .int .u16 w387, .int .u16 w390, .int .u16 w392, .int .i64 w405, .int .u8 (v418_0 : Int)])
      refine run_mc (φ := φ0) (pm := pmR 3 [(.ia 1 (n1 0) (nI 45), .ptr 2 0)] 8) 20 (ws := [⟨lS313, (k312 * 1), [.nd 39 (.int .u8)], false⟩, ⟨lS364, (k363 * 1), [.nd 43 (.int .u8)], false⟩, ⟨lS418, (k417 * 1), [.nd 50 (.int .u8)], false⟩, ⟨p157, 0, [nI 24, .nd 33 (.int .i16), .nd 44 (.int .i16), .lit (.int .i16 0)], true⟩]) (env := [(91, n1 0), (97, .ptr 0 0), (98, .nd 39 (.int .u8)), (0, n1 0), (7, nI 13), (101, nI 13), (9, .lit (.int .i64 2)), (103, .lit (.int .i64 1)), (102, nI 42), (104, .lit (.int .i64 2)), (100, n1 0), (105, nI 40), (106, .ptr 1 0), (107, .nd 43 (.int .u8)), (99, .nd 41 (.int .u16)), (8, .ptr 3 0), (112, .ptr 3 1), (90, .lit (.int .i64 2)), (113, .ptr 3 2), (88, .lit (.int .i64 1)), (89, .lit (.int .i64 2)), (86, .lit (.int .i64 2)), (87, .lit (.bool true)), (92, nI 13), (94, .lit (.int .i64 2)), (95, .lit (.int .i64 4)), (5, n1 12), (6, nI 11), (4, nI 10), (96, nI 45), (108, .nd 46 (.int .u16)), (109, .nd 47 (.int .u16)), (110, .nd 48 (.int .u16)), (111, .nd 44 (.int .i16)), (93, nI 49)]) q421 (.cons (win_elem hg.recs r414 hlt313 rfl (by rw [hm313]; exact (dL q421))) (.cons (win_elem hg.recs r415 hlt364 rfl (by rw [hm364]; exact (dL q421))) (.cons (win_elem hg.recs gS418 hlt418 rfl (by rw [hm418]; exact (dL q421))) wA))) sd (.cons (rule_iaS (k := k417) (dE q421) eS418 (dE q421) hlt418 rfl) .nil) (eC q421 (sc B14 (.cons b373 (.cons b388 (.cons b391 (.cons b393 (.cons b398 (.cons b406 .nil)))))))) tb_ok ap_ok ?_
      refine all1 kr fun vs ls H422 E422 st hE => ?_
      obtain ⟨w424, hw424⟩ : ∃ z, z = (IntKind.wrap .i64 ((IntKind.wrap .i64 ((k94 : Int) + 5)) + 4)) := ⟨_, rfl⟩
      have b425 : E422 105 = .int .i64 w424 := by rw [hw424]; exact eo st hE 105 _
      obtain ⟨w429, hw429⟩ : ∃ z, z = (IntKind.wrap .u16 (v418_0 : Int)) := ⟨_, rfl⟩
      have b430 : E422 99 = .int .u16 w429 := by rw [hw429]; exact eo st hE 99 _
      obtain ⟨w455, hw455⟩ : ∃ z, z = (IntKind.wrap .i64 ((k94 : Int) + 5)) := ⟨_, rfl⟩
      have b456 : E422 102 = .int .i64 w455 := by rw [hw455]; exact eo st hE 102 _
      have B15 := es st hE [(100, S), (106, .ptr lS364 ((k363 * 1) + 0)), (107, .int .u8 (v364_0 : Int)), (108, .int .u16 w387), (109, .int .u16 w390), (110, .int .u16 w392), (8, .ptr p157 0), (112, .ptr p157 1), (90, .int .i64 2), (113, .ptr p157 2), (111, .int .i16 w369), (9, .int .i64 2), (88, .int .i64 1), (89, .int .i64 2), (86, .int .i64 2), (87, .bool true), (0, S), (7, .int .i64 (k94 : Int)), (92, .int .i64 (k94 : Int)), (94, .int .i64 2), (93, .int .i64 w405), (95, .int .i64 4), (91, S), (96, .int .i64 (k417 : Int)), (97, .ptr lS418 ((k417 * 1) + 0)), (98, .int .u8 (v418_0 : Int)), (101, .int .i64 (k94 : Int)), (103, .int .i64 2), (104, .int .i64 4), (5, acc79_0), (6, .int .i64 (i79 : Int)), (4, .int .i64 w73)]
      have g461 : Grew H368 H422 := (gk st)
      have g462 := Grew.trans g412 g461
      have r464 := g461.at r415
      have r465 := g461.at gS418
      have r466 := g461.at r370
      have s467 := s416.grew g461
      have nw424 : w424 = (((k94 : Int) + 5) + 4) := by
       rw [hw424]
       rw [show (IntKind.wrap .i64 ((k94 : Int) + 5)) = (k94 : Int) + 5 from wrap_i64 om om]
       rw [show (IntKind.wrap .i64 (((k94 : Int) + 5) + 4)) = ((k94 : Int) + 5) + 4 from wrap_i64 om om]
      have nw455 : w455 = ((k94 : Int) + 5) := by
       rw [hw455]
       rw [show (IntKind.wrap .i64 ((k94 : Int) + 5)) = (k94 : Int) + 5 from wrap_i64 om om]
      obtain ⟨k468, rfl⟩ : ∃ k : Nat, w424 = (k : Int) := ⟨Int.toNat w424, by omega⟩
      have hlt469 : k468 < ms.length := by omega
      obtain ⟨lS469, cap469, rest469, wr469, eS469, gB469⟩ := hS.isSl hlt469
      have gS469 := g462.at gB469
      have ne470 := apn gB469 op157
      have ne471 : ApartL (acc79_0) lS469 := f79_0.apartL (H.lt_of_get gB469)
      obtain ⟨v469_0, hm469, hb469⟩ := (rngParts hg hlt469)
      have he469 : ms.getD k468 [] = [.int .u8 (v469_0 : Int)] := by rw [← hm469, List.getD_eq_getElem?_getD, List.getElem?_eq_getElem hlt469]; rfl
      have q472 := q421.app (kL : KdsL [KI, .int .u16, KI, .int .u8] [.int .i64 (k468 : Int), .int .u16 w429, .int .i64 w455, .int .u8 (v469_0 : Int)])
      refine run_mc (φ := φ0) (pm := pmR 3 [(.ia 1 (n1 0) (nI 51), .ptr 2 0)] 8) 20 (ws := [⟨lS364, (k363 * 1), [.nd 43 (.int .u8)], false⟩, ⟨lS418, (k417 * 1), [.nd 50 (.int .u8)], false⟩, ⟨lS469, (k468 * 1), [.nd 54 (.int .u8)], false⟩, ⟨p157, 0, [nI 24, .nd 33 (.int .i16), .nd 44 (.int .i16), .lit (.int .i16 0)], true⟩]) (env := [(100, n1 0), (106, .ptr 0 0), (107, .nd 43 (.int .u8)), (108, .nd 46 (.int .u16)), (109, .nd 47 (.int .u16)), (110, .nd 48 (.int .u16)), (8, .ptr 3 0), (112, .ptr 3 1), (90, .lit (.int .i64 2)), (113, .ptr 3 2), (111, .nd 44 (.int .i16)), (9, .lit (.int .i64 2)), (88, .lit (.int .i64 1)), (89, .lit (.int .i64 2)), (86, .lit (.int .i64 2)), (87, .lit (.bool true)), (0, n1 0), (7, nI 13), (92, nI 13), (94, .lit (.int .i64 2)), (93, nI 49), (95, .lit (.int .i64 4)), (91, n1 0), (96, nI 45), (97, .ptr 1 0), (98, .nd 50 (.int .u8)), (101, nI 13), (103, .lit (.int .i64 2)), (104, .lit (.int .i64 4)), (5, n1 12), (6, nI 11), (4, nI 10), (105, nI 51), (99, .nd 52 (.int .u16)), (102, nI 53)]) q472 (.cons (win_elem hg.recs r464 hlt364 rfl (by rw [hm364]; exact (dL q472))) (.cons (win_elem hg.recs r465 hlt418 rfl (by rw [hm418]; exact (dL q472))) (.cons (win_elem hg.recs gS469 hlt469 rfl (by rw [hm469]; exact (dL q472))) wA))) sd (.cons (rule_iaS (k := k468) (dE q472) eS469 (dE q472) hlt469 rfl) .nil) (eC q472 (sc B15 (.cons b425 (.cons b430 (.cons b456 .nil))))) tb_ok ap_ok ?_
      refine all1 kr fun vs ls H473 E473 st hE => ?_
      obtain ⟨w474, hw474⟩ : ∃ z, z = (IntKind.wrap .i16 (IntKind.wrap .u16 (w429 + (IntKind.wrap .u16 ((IntKind.wrap .u16 (v469_0 : Int)) * 2 ^ (min (Int.toNat 8) (IntKind.bits .u16))))))) := ⟨_, rfl⟩
      obtain ⟨p475, e476, r477, n478⟩ := sl_of st.inn hE 116 4 1 1 4 kr (ds := [.int .i64 w156, .int .i16 w265, .int .i16 w369, .int .i16 (IntKind.wrap .i16 (IntKind.wrap .u16 (w429 + (IntKind.wrap .u16 ((IntKind.wrap .u16 (v469_0 : Int)) * 2 ^ (min (Int.toNat 8) (IntKind.bits .u16)))))))]) kr
      rw [← hw474] at r477
      have op475 : H.next ≤ p475 := Nat.le_trans g462.next (oM n478)
      have ne479 := apn r464 (oM n478)
      have ne480 := apn r465 (oM n478)
      have ne481 := apn gS469 (oM n478)
      have ne482 := apn r466 (oM n478)
      have ne483 : ApartL (acc79_0) p475 := s467.apart_new (oM n478)
      have r484 : H473.get p157 = some (.row [.int .i64 w156, .int .i16 w265, .int .i16 w369, .int .i16 (IntKind.wrap .i16 (IntKind.wrap .u16 (w429 + (IntKind.wrap .u16 ((IntKind.wrap .u16 (v469_0 : Int)) * 2 ^ (min (Int.toNat 8) (IntKind.bits .u16)))))))] true) := rW st 3
      rw [← hw474] at r484
      have b485 := eo st hE 114 acc79_0
      have B16 := es st hE [(114, acc79_0), (6, .int .i64 (i79 : Int)), (4, .int .i64 w73), (0, S), (5, acc79_0)]
      have g491 : Grew H H473 := grew_own g462 st.inn.kept ⟨op157, trivial⟩
      have s495 := s467.keep st.inn.kept ⟨by assumption, trivial⟩
      refine res_append (d := (some 117)) (sz := 4) (bytes := 16) (x := .tmp 114) (y := .tmp 116) kr (S := acc79_0) (ms := (rdL ms i79)) (ys := [[.int .i64 w156, .int .i16 w265, .int .i16 w369, .int .i16 w474]]) (by show E473 114 = _; exact b485) s495 (rdL_recs ms i79).len (by show srcCells _ _ (E473 116) = _; rw [e476]; exact src_one r477 rfl) (recs_one (ks := KR) (Recs.one (ks := KR) (.cons kA (.cons kA (.cons kA (.cons kA .nil))))) rfl) (by first | omega | (simp only [List.length_append, List.length_cons, List.length_nil, chk2_len]; omega)) ?_
      intro S496 H497 sS496 fS496 oS496
      have ne498 := aL fS496 r477 am
      have fr499 : FreshS H.next (S496) := fS496.fresh f79_0 g491.next
      have g500 : Grew H H497 := OnlyS.own g491 f79_0 oS496
      have r501 := oS496.at r477 am
      have q502 := q472.app (kL : KdsL [.int .i16, .one] [.int .i16 w474, S496])
      refine rC 1 8 [wf p475 [nI 24, .nd 33 (.int .i16), .nd 44 (.int .i16), .nd 55 (.int .i16)]] [(114, n1 12), (6, nI 11), (4, nI 10), (0, n1 0), (5, n1 12), (116, .sl 0 0 1 1 4), (117, n1 56)] q502 (sc (sp B16) (.cons (put_ne rfl e476) (.cons put_same .nil))) ?_
      refine all1 kr fun vs ls H503 E503 st hE => ?_
      obtain ⟨w504, hw504⟩ : ∃ z, z = (IntKind.wrap .i64 ((i79 : Int) + 1)) := ⟨_, rfl⟩
      have b505 : E503 6 = .int .i64 w504 := by rw [hw504]; exact eo st hE 6 _
      have b506 := eo st hE 4 (.int .i64 w73)
      have b507 := eo st hE 0 S
      have b508 := eo st hE 5 S496
      have g509 : Grew H497 H503 := (gk st)
      have g510 := Grew.trans g500 g509
      have s512 := sS496.grew g509
      have nw504 : w504 = ((i79 : Int) + 1) := by
       rw [hw504]
       rw [show (IntKind.wrap .i64 ((i79 : Int) + 1)) = (i79 : Int) + 1 from wrap_i64 om om]
      have hz9 : z79 - 1 < z79 := by omega
      have hy9 : z79 - 1 + (i79 + 1) = (num2 ms 2).toNat := by omega
      have hi9 : E503 6 = .int .i64 ((i79 + 1 : Nat) : Int) := by rw [b505, hw504, wrap64 om]
      have x0 : byN ms (4 + 10 * i79 + 0) = v95_0 := by rw [show 4 + 10 * i79 + 0 = k94 by omega]; exact byN_at he95
      have x1 : byN ms (4 + 10 * i79 + 1) = v114_0 := by rw [show 4 + 10 * i79 + 1 = k113 by omega]; exact byN_at he114
      have x2 : byN ms (4 + 10 * i79 + 2) = v133_0 := by rw [show 4 + 10 * i79 + 2 = k132 by omega]; exact byN_at he133
      have x3 : byN ms (4 + 10 * i79 + 3) = v152_0 := by rw [show 4 + 10 * i79 + 3 = k151 by omega]; exact byN_at he152
      have x4 : byN ms (4 + 10 * i79 + 4) = v185_0 := by rw [show 4 + 10 * i79 + 4 = k184 by omega]; exact byN_at he185
      have x5 : byN ms (4 + 10 * i79 + 5) = v260_0 := by rw [show 4 + 10 * i79 + 5 = k223 by omega]; exact byN_at he260
      have x6 : byN ms (4 + 10 * i79 + 6) = v313_0 := by rw [show 4 + 10 * i79 + 6 = k312 by omega]; exact byN_at he313
      have x7 : byN ms (4 + 10 * i79 + 7) = v364_0 := by rw [show 4 + 10 * i79 + 7 = k363 by omega]; exact byN_at he364
      have x8 : byN ms (4 + 10 * i79 + 8) = v418_0 := by rw [show 4 + 10 * i79 + 8 = k417 by omega]; exact byN_at he418
      have x9 : byN ms (4 + 10 * i79 + 9) = v469_0 := by rw [show 4 + 10 * i79 + 9 = k468 by omega]; exact byN_at he469
      have z0 : w156 = num4 ms (4 + 10 * i79) := by
       have q : num4 ms (4 + 10 * i79) = (byN ms (4 + 10 * i79 + 0) : Int) + 256 * (byN ms (4 + 10 * i79 + 1) : Int) + 65536 * (byN ms (4 + 10 * i79 + 2) : Int) + 16777216 * (byN ms (4 + 10 * i79 + 3) : Int) := rfl
       rw [q, x0, x1, x2, x3, hw156, hw140, hw121, hw102]
       exact t4w v95_0 v114_0 v133_0 v152_0 om om om om
      have z1 : w265 = IntKind.wrap .i16 (num2 ms (8 + 10 * i79)) := by
       have q : num2 ms (8 + 10 * i79) = (byN ms (4 + 10 * i79 + 4) : Int) + 256 * (byN ms (4 + 10 * i79 + 5) : Int) := by unfold num2; rw [show 8 + 10 * i79 = 4 + 10 * i79 + 4 by omega]
       rw [q, x4, x5, hw265, hw193]
       exact t2w v185_0 v260_0 om om
      have z2 : w369 = IntKind.wrap .i16 (num2 ms (10 + 10 * i79)) := by
       have q : num2 ms (10 + 10 * i79) = (byN ms (4 + 10 * i79 + 6) : Int) + 256 * (byN ms (4 + 10 * i79 + 7) : Int) := by unfold num2; rw [show 10 + 10 * i79 = 4 + 10 * i79 + 6 by omega]
       rw [q, x6, x7, hw369, hw324]
       exact t2w v313_0 v364_0 om om
      have z3 : w474 = IntKind.wrap .i16 (num2 ms (12 + 10 * i79)) := by
       have q : num2 ms (12 + 10 * i79) = (byN ms (4 + 10 * i79 + 8) : Int) + 256 * (byN ms (4 + 10 * i79 + 9) : Int) := by unfold num2; rw [show 12 + 10 * i79 = 4 + 10 * i79 + 8 by omega]
       rw [q, x8, x9, hw474, hw429]
       exact t2w v418_0 v469_0 om om
      have hs9 : rdL ms (i79 + 1) = ((rdL ms i79) ++ [[.int .i64 w156, .int .i16 w265, .int .i16 w369, .int .i16 w474]]) := by
       rw [rdL_succ, z0, z1, z2, z3]; rfl
      exact res_norm kr ⟨z79 - 1, hz9, i79 + 1, S496, hy9, b506, b507, hi9, b508, g510, (by rw [hs9]; exact s512), fr499⟩
     ·
      intro vs ls H513 E513 st hE
      have f514 : ¬ ((i79 : Int) < w73) := df st 0
      obtain ⟨w519, hw519⟩ : ∃ z, z = (decide ((i79 : Int) < w73)) := ⟨_, rfl⟩
      have b520 : E513 50 = .bool w519 := by rw [hw519]; exact eo st hE 50 _
      have B17 := es st hE [(6, .int .i64 (i79 : Int)), (4, .int .i64 w73), (48, .int .i64 (i79 : Int)), (49, .int .i64 w73), (0, S), (5, acc79_0)]
      have g523 : Grew Hi79 H513 := (gk st)
      have g524 := Grew.trans gt79 g523
      have s525 := s79_0.grew g523
      refine res_exit (id := 0) kr ?_
      have hiN : i79 = N := by omega
      subst hiN
      have q526 := q80.app (kL : KdsL [.bool, .bool] [.bool w519, .bool (okFeed (rdL ms i79))])
      refine rD 0 0 [(.call 78 [n1 12], nB 14)] [] [(6, nI 11), (4, nI 10), (48, nI 11), (49, nI 10), (0, n1 0), (5, n1 12), (50, nB 13)] q526 (.cons (rule_call (args := [acc79_0]) (r := .bool (okFeed (rdL ms i79))) (dL q526) (dE q526) (fun H9 hk => k_l04Feed H9 (rdL ms i79) (rdL_recs ms i79) acc79_0 ((s525.grew (hk.grew (Nat.le_refl _)))).toL (by rw [rdL_len]; omega))) .nil) (sc B17 (.cons b520 .nil)) ?_
      refine all2 kr ?_ ?_
      ·
       intro vs ls H527 E527 st hE
       have f528 : (okFeed (rdL ms i79)) = false := bf st 0
       have gz : Grew H H527 := (Grew.trans g524 (gk st))
       have hv : rdV ms = ([], 5) := by
        unfold rdV; rw [if_neg om, if_pos hh, hnN]; rw [if_neg (by rw [f528]; decide)]
       obtain ⟨pz, ez, rz, nz⟩ := sl_of st.inn hE 2 0 0 0 4 kr (ds := []) kr
       have oz : H.next ≤ pz := Nat.le_trans g524.next (nz (Nat.le_of_ble_eq_true rfl))
       have e7 : E527 3 = .int .i64 5 := env_of st.inn hE 3 kr
       exact res_ex kr (end_tmps (.inr rfl) ez e7 gz.next (by rw [hv]; exact ⟨gz, _, rfl, .sl (by simpa using rz) rfl (Nat.le_refl _), .of_le oz⟩))
      ·
       intro vs ls H529 E529 st hE
       have f530 : (okFeed (rdL ms i79)) = true := bf st 0
       have b531 := eo st hE 125 S
       have B18 := es st hE [(125, S), (122, acc79_0), (5, acc79_0)]
       have g534 : Grew H513 H529 := (gk st)
       have g535 := Grew.trans g524 g534
       have s536 := s525.grew g534
       refine res_qM (d := some 126) (op := .conv .bs (.tmp 125)) (r := (.str (strOf ms))) kr rfl (conv_bs (H := H529) hg.recs (hS.grew g535) b531) ?_
       have q537 := q526.app (kL : KdsL [.str] [.str (strOf ms)])
       refine rC 0 0 [] [(125, n1 0), (122, n1 12), (5, n1 12), (126, .nd 15 .str)] q537 (sc (sp B18) (.cons put_same .nil)) ?_
       refine all1 kr fun vs ls H538 E538 st hE => ?_
       have b539 := eo st hE 122 acc79_0
       have B19 := es st hE [(122, acc79_0), (126, .str (strOf ms)), (5, acc79_0)]
       have g542 : Grew H529 H538 := (gk st)
       have g543 := Grew.trans g535 g542
       have s544 := s536.grew g542
       refine res_kid (free := false) (d := (some 123)) (f := 79) (args := [.tmp 122]) kr (R := fun z H' => Grew H538 H' ∧ SlF H' 1 (pktL (rdL ms i79)) z ∧ FreshS H538.next z) ?_ ?_
       ·
        show ACalls _ _ [E538 122] _ _
        rw [b539]
        exact k_l04Packet H538 (rdL ms i79) (rdL_recs ms i79) acc79_0 s544.toL (by rw [rdL_len]; omega)
       rintro S545 H546 ⟨gS545, sS545, fS545⟩
       refine ⟨gS545, ?_⟩
       have ne547 : ApartS (S545) (acc79_0) := fS545.apartS s544.lt
       have fr548 : FreshS H.next (S545) := fS545.mono g543.next
       have g549 := Grew.trans g543 gS545
       have s550 := s544.grew gS545
       have q551 := q537.app (kL : KdsL [.one] [S545])
       refine rC 0 0 [] [(122, n1 12), (126, .nd 15 .str), (5, n1 12), (123, n1 16)] q551 (sc (sp B19) (.cons put_same .nil)) ?_
       refine all1 kr fun vs ls H552 E552 st hE => ?_
       have b553 := eo st hE 123 S545
       have B20 := es st hE [(123, S545), (126, .str (strOf ms)), (5, acc79_0)]
       have g556 : Grew H546 H552 := (gk st)
       have g557 := Grew.trans g549 g556
       have s558 := s550.grew g556
       have s559 := sS545.grew g556
       refine res_qM (d := some 124) (op := .conv .bs (.tmp 123)) (r := (.str (strOf (pktL (rdL ms i79))))) kr rfl (conv_bs (H := H552) pkt_rng.recs s559.toL b553) ?_
       have q560 := q551.app (kL : KdsL [.str] [.str (strOf (pktL (rdL ms i79)))])
       refine rC 0 0 [] [(123, n1 16), (126, .nd 15 .str), (5, n1 12), (124, .nd 17 .str)] q560 (sc (sp B20) (.cons put_same .nil)) ?_
       refine all2 kr ?_ ?_
       ·
        intro vs ls H561 E561 st hE
        have f562 : ¬ ((strOf (pktL (rdL ms i79))) = (strOf ms)) := df st 0
        have gz : Grew H H561 := (Grew.trans g557 (gk st))
        have hv : rdV ms = ([], 8) := by
         unfold rdV; rw [if_neg om, if_pos hh, hnN]; rw [if_pos f530, if_neg (fun h => f562 ((prf_iff hg hh hN hL).2 h))]
        obtain ⟨pz, ez, rz, nz⟩ := sl_of st.inn hE 2 0 0 0 4 kr (ds := []) kr
        have oz : H.next ≤ pz := Nat.le_trans g557.next (nz (Nat.le_of_ble_eq_true rfl))
        have e7 : E561 3 = .int .i64 8 := env_of st.inn hE 3 kr
        exact res_ex kr (end_tmps (.inr rfl) ez e7 gz.next (by rw [hv]; exact ⟨gz, _, rfl, .sl (by simpa using rz) rfl (Nat.le_refl _), .of_le oz⟩))
       ·
        intro vs ls H563 E563 st hE
        have f564 : (strOf (pktL (rdL ms i79))) = (strOf ms) := dt st 0
        have gz : Grew H H563 := (Grew.trans g557 (gk st))
        have hv : rdV ms = (rdL ms i79, 0) := by
         unfold rdV; rw [if_neg om, if_pos hh, hnN]; rw [if_pos f530, if_pos ((prf_iff hg hh hN hL).1 f564)]
        exact re st hE (.tuple [acc79_0, .int .i64 0]) gz.next (by rw [hv]; exact ⟨gz, _, rfl, (s558.grew (st.inn.kept.grew (Nat.le_refl _))).toW, f79_0⟩)
end Go.Proofs.Ytnleibiniajbnaa
