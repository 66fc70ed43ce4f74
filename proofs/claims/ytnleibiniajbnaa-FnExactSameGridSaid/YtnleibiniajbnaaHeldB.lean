/- Contracts of the law's words that write and read marks in slices of records: Byte. -/
import Derived.Test.YtnleibiniajbnaaByte
import Derived.Test.YtnleibiniajbnaaSxD
set_option linter.unusedVariables false
set_option linter.unusedSimpArgs false
namespace Go.Proofs.Ytnleibiniajbnaa
open Go.Ab
set_option maxRecDepth 100000
set_option maxHeartbeats 1000000
attribute [local irreducible] Res
def mkByte (q : Int) : List AV := [.int .u8 (IntKind.wrap .u8 q)]
def mksByte (q : Int) (n : Nat) : List (List AV) := (List.range n).map fun (i : Nat) => mkByte (q + 1 * (i : Int))
theorem mksByte_len (q : Int) (n : Nat) : (mksByte q n).length = n := by simp [mksByte]
theorem mksByte_recs (q : Int) (n : Nat) : Recs KB (mksByte q n) := by
  intro m hm
  simp only [mksByte, List.mem_map] at hm
  obtain ⟨i, _, rfl⟩ := hm
  exact .cons ⟨_, rfl⟩ .nil
theorem mksByte_flat (q : Int) (n : Nat) : (mksByte q n).flatten.length = n * 1 := by
  have := take_flat_len (mksByte_recs q n).len (i := n) (by rw [mksByte_len]; exact Nat.le_refl _)
  rwa [List.take_of_length_le (by rw [mksByte_len]; exact Nat.le_refl _)] at this
theorem mksByte_succ (q : Int) (n : Nat) : (mksByte q (n + 1)).flatten = (mksByte q n).flatten ++ mkByte (q + 1 * (n : Int)) := by
  simp [mksByte, List.range_succ]
theorem mksByte_get (q : Int) {n i : Nat} (h : i < n) : (mksByte q n).getD i [] = mkByte (q + 1 * (i : Int)) := by
  simp [mksByte, List.getD_eq_getElem?_getD, h]
theorem k_markByteS (H : AHeap) (ms : List (List AV)) (hr : Recs KB ms) (l cap : Nat) (rest : List AV) (hg : H.get l = some (.row (ms.flatten ++ rest) true)) (k : Int) (h0 : 0 ≤ k) (h1 : k ≤ 1152921504606846976) (hmax : ms.length ≤ 1048576) : ACalls Try.prog 37 [.slice l 0 ms.length cap 1, .int .i64 k] H fun r H' => r = .int .i64 (k + 1 * (ms.length : Int)) ∧ Only l H H' ∧ H'.get l = some (.row ((mksByte k ms.length).flatten ++ rest) true) := by
  refine res_start h_laws_markByteS (by simp) ?_
  have row0 := hg
  refine run_mn (φ := φ0) (pm := pmR 0 [] 0) 20 (nk := [(.atom 0, .one), (.atom 1, .int .i64)]) (fs := []) (xs := [.slice l 0 ms.length cap 1, .int .i64 k]) (ws := []) (env := [(0, .nd 0 .one), (1, .nd 1 (.int .i64))]) ?_ ?_ tb_ok ap_ok ?_
  · refine midN_in ?_ .nil _ ?_ ?_ ?_
    · exact (.cons rfl rfl (.cons rfl ⟨_, rfl⟩ .nil))
    · exact .nil
    · exact sepOk_ro rfl
    · exact .nil
  · exact (envEq rfl (dNd rfl rfl) (envEq rfl (dNd rfl ⟨_, rfl⟩) envNil))
  refine all1 (by kernel_rfl) ?_
  intro vs ls H1 E1 st hE
  have b2 : E1 5 = .int .i64 0 := env_of st.inn hE 5 (by kernel_rfl)
  have b3 : E1 0 = .slice l 0 ms.length cap 1 := env_of st.inn hE 0 (by kernel_rfl)
  have b4 : E1 1 = .int .i64 k := env_of st.inn hE 1 (by kernel_rfl)
  have g5 : Grew H H1 := (st.kept.grew (Nat.le_of_ble_eq_true (by kernel_rfl)))
  have g6 : Only l H H1 := (Only.refl _ _).grew g5
  clear st hE vs ls
  have r7 := g5.at hg
  refine res_loop (by kernel_rfl) (fun z E H' => ∃ i, z + i = ms.length ∧ E 0 = .slice l 0 ms.length cap 1 ∧ E 1 = .int .i64 (k + 1 * (i : Int)) ∧ E 5 = .int .i64 (i : Int) ∧ Only l H H' ∧ H'.get l = some (.row ((mksByte k i).flatten ++ ((ms.drop i).flatten ++ rest)) true)) ms.length
    ⟨0, by omega, b3, by simpa using b4, b2, g6, by simpa [mksByte] using r7⟩ ?_
  clear b3 b4 b2 r7
  rintro z E0 H0 ⟨i, hz, c0, c1, ci, gO, row⟩
  obtain ⟨q, hq⟩ : ∃ q, q = k + 1 * (i : Int) := ⟨_, rfl⟩
  rw [← hq] at c1
  rcases Nat.lt_or_ge i ms.length with hlt | hge
  ·
    obtain ⟨v0, hm⟩ := partsByte (hr.get hlt)
    have hqb : -4611686018427387904 ≤ q ∧ q + 1 ≤ 4611686018427387904 := by omega
    have e0 : IntKind.i64.wrap (q + 1) = (q + 1) := wrap_i64 (by omega) (by omega)
    have hP : (mksByte k i).flatten.length = i * 1 := mksByte_flat k i
    have hd : (ms.drop i).flatten = ms[i] ++ (ms.drop (i + 1)).flatten := by rw [List.drop_eq_getElem_cons hlt, List.flatten_cons]
    rw [hd, hm, List.append_assoc] at row
    obtain ⟨Q, hQ⟩ : ∃ Q, Q = (ms.drop (i + 1)).flatten ++ rest := ⟨_, rfl⟩
    obtain ⟨P, hPe⟩ : ∃ P, P = (mksByte k i).flatten := ⟨_, rfl⟩
    rw [← hQ, ← hPe] at row
    rw [← hPe] at hP
    have hn : i < ms.length := hlt
    have hza : z - 1 < z := by omega
    have hzb : z - 1 + (i + 1) = ms.length := by omega
    have hni : (i : Int) < (ms.length : Int) := by omega
    have hiw : IntKind.i64.wrap ((i : Int) + 1) = ((i + 1 : Nat) : Int) := wrap64 (by omega)
    have hqn : (q + 1) = k + 1 * ((i + 1 : Nat) : Int) := by push_cast; omega
    refine run_mn (φ := φ0) (pm := pmR 1 [(.len (.nd 0 .one), .nd 3 (.int .i64)), (.ia 1 (.nd 0 .one) (.nd 2 (.int .i64)), .ptr 0 0)] 10) 20 (nk := [(.atom 0, .one), (.atom 1, .int .i64), (.atom 2, .int .i64), (.atom 3, .int .i64), (.atom 4, .int .u8)]) (fs := []) (xs := [.slice l 0 ms.length cap 1, .int .i64 q, .int .i64 (i : Int), .int .i64 (ms.length : Int), .int .u8 v0]) (ws := [⟨l, (i * 1), [.nd 4 (.int .u8)], false⟩]) (env := [(0, .nd 0 .one), (1, .nd 1 (.int .i64)), (5, .nd 2 (.int .i64))]) ?_ ?_ tb_ok ap_ok ?_
    · refine midN_in ?_ .nil _ ?_ ?_ ?_
      · exact (.cons rfl rfl (.cons rfl ⟨_, rfl⟩ (.cons rfl ⟨_, rfl⟩ (.cons rfl ⟨_, rfl⟩ (.cons rfl ⟨_, rfl⟩ .nil)))))
      · exact (.cons (win_mid row hP (dlCons (dNd rfl ⟨_, rfl⟩) dlNil)) .nil)
      · exact sepOk_ro rfl
      · exact (.cons (rule_len (dNd rfl rfl) (dNd rfl ⟨_, rfl⟩)) (.cons (rule_ia (k := i) (dNd rfl rfl) (dNd rfl ⟨_, rfl⟩) hn rfl) .nil))
    · exact (envEq c0 (dNd rfl rfl) (envEq c1 (dNd rfl ⟨_, rfl⟩) (envEq ci (dNd rfl ⟨_, rfl⟩) envNil)))
    refine all2 (by kernel_rfl) ?_ ?_
    ·
      intro vs ls H8 E8 st hE
      have f9 : (i : Int) < (ms.length : Int) := of_decide_eq_true (bfact (x := decide ((i : Int) < (ms.length : Int))) st.inn 0 (by kernel_rfl))
      have b10 : E8 16 = .ptr l ((i * 1) + 0) := env_of st.inn hE 16 (by kernel_rfl)
      obtain ⟨w11, hw11⟩ : ∃ z, z = (IntKind.wrap .u8 q) := ⟨_, rfl⟩
      have b12 : E8 15 = .int .u8 w11 := by rw [hw11]; exact env_of st.inn hE 15 (by kernel_rfl)
      have b13 : E8 1 = .int .i64 q := env_of st.inn hE 1 (by kernel_rfl)
      have b14 : E8 5 = .int .i64 (i : Int) := env_of st.inn hE 5 (by kernel_rfl)
      have b15 : E8 0 = .slice l 0 ms.length cap 1 := env_of st.inn hE 0 (by kernel_rfl)
      have g16 : Grew H0 H8 := (st.kept.grew (Nat.le_of_ble_eq_true (by kernel_rfl)))
      have g17 : Only l H H8 := gO.grew g16
      have r18 := g16.at row
      clear st hE vs ls
      have row19 := g16.at row
      refine res_store_in (d := none) (n := 1) (x := .tmp 16) (y := .tmp 15) (by kernel_rfl) (off := 0) (C' := [.int .u8 w11]) (vs := [.int .u8 w11]) b10 row19 hP (by show AV.cells (E8 15) = _; rw [b12]; rfl) rfl (by simp) rfl rfl ?_
      intro H20 row21 oH20
      have g22 := g17.trans oH20
      refine run_mn (φ := φ0) (pm := pmR 1 [(.len (.nd 0 .one), .nd 3 (.int .i64)), (.ia 1 (.nd 0 .one) (.nd 2 (.int .i64)), .ptr 0 0)] 10) 20 (nk := [(.atom 0, .one), (.atom 1, .int .i64), (.atom 2, .int .i64), (.atom 3, .int .i64), (.atom 4, .int .u8), (.atom 5, .int .u8)]) (fs := []) (xs := [.slice l 0 ms.length cap 1, .int .i64 q, .int .i64 (i : Int), .int .i64 (ms.length : Int), .int .u8 v0, .int .u8 w11]) (ws := [⟨l, (i * 1), [.nd 5 (.int .u8)], false⟩]) (env := [(15, .nd 5 (.int .u8)), (1, .nd 1 (.int .i64)), (5, .nd 2 (.int .i64)), (0, .nd 0 .one)]) ?_ ?_ tb_ok ap_ok ?_
      · refine midN_in ?_ .nil _ ?_ ?_ ?_
        · exact (.cons rfl rfl (.cons rfl ⟨_, rfl⟩ (.cons rfl ⟨_, rfl⟩ (.cons rfl ⟨_, rfl⟩ (.cons rfl ⟨_, rfl⟩ (.cons rfl ⟨_, rfl⟩ .nil))))))
        · exact (.cons (win_mid row21 hP (dlCons (dNd rfl ⟨_, rfl⟩) dlNil)) .nil)
        · exact sepOk_ro rfl
        · exact (.cons (rule_len (dNd rfl rfl) (dNd rfl ⟨_, rfl⟩)) (.cons (rule_ia (k := i) (dNd rfl rfl) (dNd rfl ⟨_, rfl⟩) hn rfl) .nil))
      · exact (envEq (put_no b12) (dNd rfl ⟨_, rfl⟩) (envEq (put_no b13) (dNd rfl ⟨_, rfl⟩) (envEq (put_no b14) (dNd rfl ⟨_, rfl⟩) (envEq (put_no b15) (dNd rfl rfl) envNil))))
      refine all1 (by kernel_rfl) ?_
      intro vs ls H9 E9 st hE
      have g9 : Grew H20 H9 := (st.kept.grew (Nat.le_of_ble_eq_true (by kernel_rfl)))
      have r9 := g9.at row21
      have c9 : E9 1 = .int .i64 (IntKind.wrap .i64 (q + 1)) := env_of st.inn hE 1 (by kernel_rfl)
      have d9 : E9 5 = .int .i64 (IntKind.wrap .i64 ((i : Int) + 1)) := env_of st.inn hE 5 (by kernel_rfl)
      have z9 : E9 0 = .slice l 0 ms.length cap 1 := env_of st.inn hE 0 (by kernel_rfl)
      refine res_norm (by kernel_rfl) ⟨z - 1, hza, i + 1, hzb, z9, ?_, ?_, g22.grew g9, ?_⟩
      · rw [c9, e0, hqn]
      · rw [d9, hiw]
      · rw [r9, mksByte_succ, ← hPe, ← hQ, ← hq, show [.int .u8 w11] = mkByte q from ?_, List.append_assoc]
        simp only [mkByte, hw11, e0]
    ·
      intro vs ls H9 E9 st hE
      exact absurd hni (of_decide_eq_false (bfact (x := decide ((i : Int) < (ms.length : Int))) st.inn 0 (by kernel_rfl)))
  ·
    obtain rfl : i = ms.length := by omega
    refine run_mn (φ := φ0) (pm := pmR 0 [(.len (.nd 0 .one), .nd 2 (.int .i64))] 10) 20 (nk := [(.atom 0, .one), (.atom 1, .int .i64), (.atom 2, .int .i64)]) (fs := []) (xs := [.slice l 0 ms.length cap 1, .int .i64 q, .int .i64 (ms.length : Int)]) (ws := []) (env := [(0, .nd 0 .one), (1, .nd 1 (.int .i64)), (5, .nd 2 (.int .i64))]) ?_ ?_ tb_ok ap_ok ?_
    · refine midN_in ?_ .nil _ ?_ ?_ ?_
      · exact (.cons rfl rfl (.cons rfl ⟨_, rfl⟩ (.cons rfl ⟨_, rfl⟩ .nil)))
      · exact .nil
      · exact sepOk_ro rfl
      · exact (.cons (rule_len (dNd rfl rfl) (dNd rfl ⟨_, rfl⟩)) .nil)
    · exact (envEq c0 (dNd rfl rfl) (envEq c1 (dNd rfl ⟨_, rfl⟩) (envEq ci (dNd rfl ⟨_, rfl⟩) envNil)))
    refine all1 (by kernel_rfl) ?_
    intro vs ls H23 E23 st hE
    have b24 : E23 1 = .int .i64 q := env_of st.inn hE 1 (by kernel_rfl)
    have g25 : Grew H0 H23 := (st.kept.grew (Nat.le_of_ble_eq_true (by kernel_rfl)))
    have g26 : Only l H H23 := gO.grew g25
    clear st hE vs ls
    have re := g25.at row
    refine res_exit (id := 0) (by kernel_rfl) ?_
    refine run_mn (φ := φ0) (pm := pmR 0 [] 10) 20 (nk := [(.atom 0, .one), (.atom 1, .int .i64), (.atom 2, .int .i64)]) (fs := []) (xs := [.slice l 0 ms.length cap 1, .int .i64 q, .int .i64 (ms.length : Int)]) (ws := []) (env := [(1, .nd 1 (.int .i64))]) ?_ ?_ tb_ok ap_ok ?_
    · refine midN_in ?_ .nil _ ?_ ?_ ?_
      · exact (.cons rfl rfl (.cons rfl ⟨_, rfl⟩ (.cons rfl ⟨_, rfl⟩ .nil)))
      · exact .nil
      · exact sepOk_ro rfl
      · exact .nil
    · exact (envEq b24 (dNd rfl ⟨_, rfl⟩) envNil)
    refine all1 (by kernel_rfl) ?_
    intro vs ls H9 E9 st hE
    have g9 : Grew H23 H9 := (st.kept.grew (Nat.le_of_ble_eq_true (by kernel_rfl)))
    refine res_ex (by kernel_rfl) (end_same st.inn hE (.inr rfl) (a := .int .i64 q) (by kernel_rfl) (g26.grew g9).next ⟨by rw [hq], g26.grew g9, ?_⟩)
    rw [g9.at re]; simp
theorem k_heldByteS (H : AHeap) (k : Int) (n : Nat) (S : AV) (hS : SlL H 1 (mksByte k n) S) (h0 : 0 ≤ k) (h1 : k ≤ 1152921504606846976) (hmax : n ≤ 1048576) : APure Try.prog 71 [S, .int .i64 k] H (.int .i64 (k + 1 * (n : Int))) := by
  refine res_start h_laws_heldByteS (by simp) ?_
  refine run_mn (φ := φ0) (pm := pmR 0 [] 0) 20 (nk := [(.atom 0, .one), (.atom 1, .int .i64)]) (fs := []) (xs := [S, .int .i64 k]) (ws := []) (env := [(0, .nd 0 .one), (1, .nd 1 (.int .i64))]) ?_ ?_ tb_ok ap_ok ?_
  · refine midN_in ?_ .nil _ ?_ ?_ ?_
    · exact (.cons rfl (slOne hS) (.cons rfl ⟨_, rfl⟩ .nil))
    · exact .nil
    · exact sepOk_ro rfl
    · exact .nil
  · exact (envEq rfl (dNd rfl (slOne hS)) (envEq rfl (dNd rfl ⟨_, rfl⟩) envNil))
  refine all1 (by kernel_rfl) ?_
  intro vs ls H1 E1 st hE
  have b2 : E1 5 = .int .i64 0 := env_of st.inn hE 5 (by kernel_rfl)
  have b3 : E1 0 = S := env_of st.inn hE 0 (by kernel_rfl)
  have b4 : E1 1 = .int .i64 k := env_of st.inn hE 1 (by kernel_rfl)
  have g5 : Grew H H1 := (st.kept.grew (Nat.le_of_ble_eq_true (by kernel_rfl)))
  have g6 : Grew H H1 := Grew.trans (Grew.refl _) g5
  clear st hE vs ls
  refine res_loop (by kernel_rfl) (fun z E H' => ∃ i, z + i = n ∧ E 0 = S ∧ E 1 = .int .i64 (k + 1 * (i : Int)) ∧ E 5 = .int .i64 (i : Int) ∧ Grew H H') n
    ⟨0, by omega, b3, by simpa using b4, b2, g6⟩ ?_
  clear b3 b4 b2
  rintro z E0 H0 ⟨i, hz, c0, c1, ci, gO⟩
  obtain ⟨q, hq⟩ : ∃ q, q = k + 1 * (i : Int) := ⟨_, rfl⟩
  rw [← hq] at c1
  have hlen := mksByte_len k n
  rcases Nat.lt_or_ge i n with hlt | hge
  ·
    have hqb : -4611686018427387904 ≤ q ∧ q + 1 ≤ 4611686018427387904 := by omega
    have e0 : IntKind.i64.wrap (q + 1) = (q + 1) := wrap_i64 (by omega) (by omega)
    have hza : z - 1 < z := by omega
    have hzb : z - 1 + (i + 1) = n := by omega
    have hni : (i : Int) < (n : Int) := by omega
    have hiw : IntKind.i64.wrap ((i : Int) + 1) = ((i + 1 : Nat) : Int) := wrap64 (by omega)
    have hqn : (q + 1) = k + 1 * ((i + 1 : Nat) : Int) := by push_cast; omega
    have hlm : i < (mksByte k n).length := by rw [hlen]; exact hlt
    obtain ⟨lS, cap, rest, wr, eS, gS0⟩ := hS.isSl hlm
    have gS := gO.at gS0
    have hm : (mksByte k n)[i] = mkByte q := by rw [hq, ← mksByte_get k hlt]; simp [List.getD_eq_getElem?_getD, hlm]
    refine run_mn (φ := φ0) (pm := pmR 1 [(.len (.nd 0 .one), .nd 3 (.int .i64)), (.ia 1 (.nd 0 .one) (.nd 2 (.int .i64)), .ptr 0 0)] 10) 20 (nk := [(.atom 0, .one), (.atom 1, .int .i64), (.atom 2, .int .i64), (.atom 3, .int .i64), (.atom 4, .int .u8)]) (fs := []) (xs := [S, .int .i64 q, .int .i64 (i : Int), .int .i64 (n : Int), .int .u8 (IntKind.wrap .u8 q)]) (ws := [⟨lS, (i * 1), [.nd 4 (.int .u8)], false⟩]) (env := [(0, .nd 0 .one), (1, .nd 1 (.int .i64)), (5, .nd 2 (.int .i64))]) ?_ ?_ tb_ok ap_ok ?_
    · refine midN_in ?_ .nil _ ?_ ?_ ?_
      · exact (.cons rfl (slOne hS) (.cons rfl ⟨_, rfl⟩ (.cons rfl ⟨_, rfl⟩ (.cons rfl ⟨_, rfl⟩ (.cons rfl ⟨_, rfl⟩ .nil)))))
      · exact (.cons (win_elem (mksByte_recs k n) gS hlm rfl (by rw [hm]; exact (dlCons (dNd rfl ⟨_, rfl⟩) dlNil))) .nil)
      · exact sepOk_ro rfl
      · exact (.cons (⟨_, _, dNd rfl (slOne hS), dNd rfl ⟨_, rfl⟩, hlen ▸ slLen hS⟩) (.cons (rule_iaS (k := i) (dNd rfl (slOne hS)) eS (dNd rfl ⟨_, rfl⟩) hlm rfl) .nil))
    · exact (envEq c0 (dNd rfl (slOne hS)) (envEq c1 (dNd rfl ⟨_, rfl⟩) (envEq ci (dNd rfl ⟨_, rfl⟩) envNil)))
    refine all3 (by kernel_rfl) ?_ ?_ ?_
    ·
      intro vs ls H9 E9 st hE
      exact absurd (show (IntKind.wrap .u8 q) = (IntKind.wrap .u8 q) by simp only [e0]) (of_decide_eq_false (bfact (x := decide ((IntKind.wrap .u8 q) = (IntKind.wrap .u8 q))) st.inn 0 (by kernel_rfl)))
    ·
      intro vs ls H9 E9 st hE
      have g9 : Grew H0 H9 := (st.kept.grew (Nat.le_of_ble_eq_true (by kernel_rfl)))
      have z9 : E9 0 = S := env_of st.inn hE 0 (by kernel_rfl)
      have c9 : E9 1 = .int .i64 (IntKind.wrap .i64 (q + 1)) := env_of st.inn hE 1 (by kernel_rfl)
      have d9 : E9 5 = .int .i64 (IntKind.wrap .i64 ((i : Int) + 1)) := env_of st.inn hE 5 (by kernel_rfl)
      refine res_norm (by kernel_rfl) ⟨z - 1, hza, i + 1, hzb, z9, ?_, ?_, gO.trans g9⟩
      · rw [c9]; simp only [e0]; rw [hqn]
      · rw [d9, hiw]
    ·
      intro vs ls H9 E9 st hE
      exact absurd hni (of_decide_eq_false (bfact (x := decide ((i : Int) < (n : Int))) st.inn 0 (by kernel_rfl)))
  ·
    obtain rfl : i = n := by omega
    refine run_mn (φ := φ0) (pm := pmR 0 [(.len (.nd 0 .one), .nd 2 (.int .i64))] 10) 20 (nk := [(.atom 0, .one), (.atom 1, .int .i64), (.atom 2, .int .i64)]) (fs := []) (xs := [S, .int .i64 q, .int .i64 (i : Int)]) (ws := []) (env := [(0, .nd 0 .one), (1, .nd 1 (.int .i64)), (5, .nd 2 (.int .i64))]) ?_ ?_ tb_ok ap_ok ?_
    · refine midN_in ?_ .nil _ ?_ ?_ ?_
      · exact (.cons rfl (slOne hS) (.cons rfl ⟨_, rfl⟩ (.cons rfl ⟨_, rfl⟩ .nil)))
      · exact .nil
      · exact sepOk_ro rfl
      · exact (.cons (⟨_, _, dNd rfl (slOne hS), dNd rfl ⟨_, rfl⟩, hlen ▸ slLen hS⟩) .nil)
    · exact (envEq c0 (dNd rfl (slOne hS)) (envEq c1 (dNd rfl ⟨_, rfl⟩) (envEq ci (dNd rfl ⟨_, rfl⟩) envNil)))
    refine all1 (by kernel_rfl) ?_
    intro vs ls H7 E7 st hE
    have b8 : E7 1 = .int .i64 q := env_of st.inn hE 1 (by kernel_rfl)
    have g9 : Grew H0 H7 := (st.kept.grew (Nat.le_of_ble_eq_true (by kernel_rfl)))
    have g10 : Grew H H7 := Grew.trans gO g9
    clear st hE vs ls
    refine res_exit (id := 0) (by kernel_rfl) ?_
    refine run_mn (φ := φ0) (pm := pmR 0 [] 10) 20 (nk := [(.atom 0, .one), (.atom 1, .int .i64), (.atom 2, .int .i64)]) (fs := []) (xs := [S, .int .i64 q, .int .i64 (i : Int)]) (ws := []) (env := [(1, .nd 1 (.int .i64))]) ?_ ?_ tb_ok ap_ok ?_
    · refine midN_in ?_ .nil _ ?_ ?_ ?_
      · exact (.cons rfl (slOne hS) (.cons rfl ⟨_, rfl⟩ (.cons rfl ⟨_, rfl⟩ .nil)))
      · exact .nil
      · exact sepOk_ro rfl
      · exact .nil
    · exact (envEq b8 (dNd rfl ⟨_, rfl⟩) envNil)
    refine all1 (by kernel_rfl) ?_
    intro vs ls H9 E9 st hE
    exact res_ex (by kernel_rfl) (end_flat st.inn hE (.inr rfl) (a := .int .i64 q) (by kernel_rfl) (g10.trans (st.kept.grew (Nat.le_of_ble_eq_true (by kernel_rfl)))) rfl ⟨by rw [hq], rfl⟩)
end Go.Proofs.Ytnleibiniajbnaa
