/- Contracts of the law's words that write and read marks in slices of records: Byte. -/
import Derived.Test.YtnleibiniajbnaaTByte
import Derived.Test.YtnleibiniajbnaaSxD
import Derived.Test.YtnleibiniajbnaaSxE
set_option linter.unusedVariables false
set_option linter.unusedSimpArgs false
namespace Go.Proofs.Ytnleibiniajbnaa
open Go.Ab
set_option maxRecDepth 100000
set_option maxHeartbeats 1000000
attribute [local irreducible] Res
def mkByte (q : Int) : List AV := [.int .u8 (IntKind.wrap .u8 q)]
def mksByte (q : Int) (n : Nat) : List (List AV) := (List.range n).map fun (i : Nat) => mkByte (q + 1 * (i : Int))
theorem mksByte_len (q : Int) (n : Nat) : (mksByte q n).length = n := by simp [mksByte]
theorem mksByte_recs (q : Int) (n : Nat) : Recs KB (mksByte q n) := by
 intro m hm
 simp only [mksByte, List.mem_map] at hm
 obtain ⟨i, _, rfl⟩ := hm
 exact .cons kA .nil
theorem mksByte_flat (q : Int) (n : Nat) : (mksByte q n).flatten.length = n * 1 := by
 have := take_flat_len (mksByte_recs q n).len (i := n) (by rw [mksByte_len]; exact Nat.le_refl _)
 rwa [List.take_of_length_le (by rw [mksByte_len]; exact Nat.le_refl _)] at this
theorem mksByte_succ (q : Int) (n : Nat) : (mksByte q (n + 1)).flatten = (mksByte q n).flatten ++ mkByte (q + 1 * (n : Int)) := by
 simp [mksByte, List.range_succ]
theorem k_markByteS (H : AHeap) (ms : List (List AV)) (hr : Recs KB ms) (l cap : Nat) (rest : List AV) (hg : H.get l = some (.row (ms.flatten ++ rest) true)) (k : Int) (h0 : 0 ≤ k) (h1 : k ≤ 1152921504606846976) (hmax : ms.length ≤ 1048576) : ACalls Try.prog 37 [.slice l 0 ms.length cap 1, .int .i64 k] H fun r H' => r = .int .i64 (k + 1 * (ms.length : Int)) ∧ Only l H H' ∧ H'.get l = some (.row ((mksByte k ms.length).flatten ++ rest) true) := by
 refine res_start h_laws_markByteS (by simp) ?_
 have row0 := hg
 have qq1 : KdsL [.one, .int .i64] [.slice l 0 ms.length cap 1, .int .i64 k] := .cons rfl (.cons kA .nil)
 refine rC 0 0 [] [(0, .nd 0 .one), (1, .nd 1 (.int .i64))] qq1 (.cons (t := 0) rfl (.cons (t := 1) rfl .nil)) ?_
 refine all1 kr fun vs ls H1 E1 st hE => ?_
 have b2 := eo st hE 5 (.int .i64 0)
 have b3 := eo st hE 0 (.slice l 0 ms.length cap 1)
 have b4 := eo st hE 1 (.int .i64 k)
 have g5 : Grew H H1 := (gk st)
 have g6 : Only l H H1 := (Only.refl _ _).grew g5
 have r7 := g5.at hg
 refine res_loop kr (fun z E H' => ∃ i, z + i = ms.length ∧ E 0 = .slice l 0 ms.length cap 1 ∧ E 1 = .int .i64 (k + 1 * (i : Int)) ∧ E 5 = .int .i64 (i : Int) ∧ Only l H H' ∧ H'.get l = some (.row ((mksByte k i).flatten ++ ((ms.drop i).flatten ++ rest)) true)) ms.length
  ⟨0, by omega, b3, by simpa using b4, b2, g6, by simpa [mksByte] using r7⟩ ?_
 clear b3 b4 b2 r7
 rintro z E0 H0 ⟨i, hz, c0, c1, ci, gO, row⟩
 obtain ⟨q, hq⟩ : ∃ q, q = k + 1 * (i : Int) := ⟨_, rfl⟩
 rw [← hq] at c1
 rcases Nat.lt_or_ge i ms.length with hlt | hge
 ·
  obtain ⟨v0, hm⟩ := partsByte (hr.get hlt)
  have hqb : -4611686018427387904 ≤ q ∧ q + 1 ≤ 4611686018427387904 := by omega
  have e0 : IntKind.i64.wrap (q + 1) = (q + 1) := wrap_i64 om om
  have hP : (mksByte k i).flatten.length = i * 1 := mksByte_flat k i
  have hd : (ms.drop i).flatten = ms[i] ++ (ms.drop (i + 1)).flatten := by rw [List.drop_eq_getElem_cons hlt, List.flatten_cons]
  rw [hd, hm, List.append_assoc] at row
  obtain ⟨Q, hQ⟩ : ∃ Q, Q = (ms.drop (i + 1)).flatten ++ rest := ⟨_, rfl⟩
  obtain ⟨P, hPe⟩ : ∃ P, P = (mksByte k i).flatten := ⟨_, rfl⟩
  rw [← hQ, ← hPe] at row
  rw [← hPe] at hP
  have hn : i < ms.length := hlt
  have hza : z - 1 < z := by omega
  have hzb : z - 1 + (i + 1) = ms.length := by omega
  have hni : (i : Int) < (ms.length : Int) := by omega
  have hiw : IntKind.i64.wrap ((i : Int) + 1) = ((i + 1 : Nat) : Int) := wrap64 om
  have hqn : (q + 1) = k + 1 * ((i + 1 : Nat) : Int) := by push_cast; omega
  have qq2 : KdsL [.one, .int .i64, .int .i64, .int .i64, .int .u8] [.slice l 0 ms.length cap 1, .int .i64 q, .int .i64 (i : Int), .int .i64 (ms.length : Int), .int .u8 v0] := .cons rfl (.cons kA (.cons kA (.cons kA (.cons kA .nil))))
  refine run_mc (φ := φ0) (pm := pmR 1 [(.len (.nd 0 .one), .nd 3 (.int .i64)), (.ia 1 (.nd 0 .one) (.nd 2 (.int .i64)), .ptr 0 0)] 10) 20 (ws := [⟨l, (i * 1), [.nd 4 (.int .u8)], false⟩]) (env := [(0, .nd 0 .one), (1, .nd 1 (.int .i64)), (5, .nd 2 (.int .i64))]) qq2 (.cons (win_mid row hP (dL qq2)) .nil) (sepOk_ro rfl) (.cons (rule_len (dNd rfl rfl) (dNd rfl ⟨_, rfl⟩)) (.cons (rule_ia (k := i) (dNd rfl rfl) (dNd rfl ⟨_, rfl⟩) hn rfl) .nil)) (eC qq2 (.cons c0 (.cons c1 (.cons ci .nil)))) tb_ok ap_ok ?_
  refine all2 kr ?_ ?_
  ·
   intro vs ls H8 E8 st hE
   have f9 : (i : Int) < (ms.length : Int) := dt st 0
   have b10 := eo st hE 16 (.ptr l ((i * 1) + 0))
   obtain ⟨w11, hw11⟩ : ∃ z, z = (IntKind.wrap .u8 q) := ⟨_, rfl⟩
   have b12 : E8 15 = .int .u8 w11 := by rw [hw11]; exact eo st hE 15 _
   have B1 := es st hE [(1, .int .i64 q), (5, .int .i64 (i : Int)), (0, .slice l 0 ms.length cap 1)]
   have g16 : Grew H0 H8 := (gk st)
   have g17 : Only l H H8 := gO.grew g16
   have row19 := g16.at row
   refine res_store_in (d := none) (n := 1) (x := .tmp 16) (y := .tmp 15) kr (off := 0) (C' := [.int .u8 w11]) (vs := [.int .u8 w11]) b10 row19 hP (by show AV.cells (E8 15) = _; rw [b12]; rfl) rfl (by simp) rfl rfl ?_
   intro H20 row21 oH20
   have g22 := g17.trans oH20
   have qq3 : KdsL [.one, .int .i64, .int .i64, .int .i64, .int .u8, .int .u8] [.slice l 0 ms.length cap 1, .int .i64 q, .int .i64 (i : Int), .int .i64 (ms.length : Int), .int .u8 v0, .int .u8 w11] := .cons rfl (.cons kA (.cons kA (.cons kA (.cons kA (.cons kA .nil)))))
   refine run_mc (φ := φ0) (pm := pmR 1 [(.len (.nd 0 .one), .nd 3 (.int .i64)), (.ia 1 (.nd 0 .one) (.nd 2 (.int .i64)), .ptr 0 0)] 10) 20 (ws := [⟨l, (i * 1), [.nd 5 (.int .u8)], false⟩]) (env := [(1, .nd 1 (.int .i64)), (5, .nd 2 (.int .i64)), (0, .nd 0 .one), (15, .nd 5 (.int .u8))]) qq3 (.cons (win_mid row21 hP (dL qq3)) .nil) (sepOk_ro rfl) (.cons (rule_len (dNd rfl rfl) (dNd rfl ⟨_, rfl⟩)) (.cons (rule_ia (k := i) (dNd rfl rfl) (dNd rfl ⟨_, rfl⟩) hn rfl) .nil)) (eC qq3 (sc (sn B1) (.cons (put_no b12) .nil))) tb_ok ap_ok ?_
   refine all1 kr fun vs ls H9 E9 st hE => ?_
   have g9 : Grew H20 H9 := (gk st)
   have r9 := g9.at row21
   have c9 : E9 1 = .int .i64 (IntKind.wrap .i64 (q + 1)) := env_of st.inn hE 1 kr
   have d9 : E9 5 = .int .i64 (IntKind.wrap .i64 ((i : Int) + 1)) := env_of st.inn hE 5 kr
   have z9 : E9 0 = .slice l 0 ms.length cap 1 := env_of st.inn hE 0 kr
   refine res_norm kr ⟨z - 1, hza, i + 1, hzb, z9, ?_, ?_, g22.grew g9, ?_⟩
   ·
    rw [c9, e0, hqn]
   ·
    rw [d9, hiw]
   ·
    rw [r9, mksByte_succ, ← hPe, ← hQ, ← hq, show [.int .u8 w11] = mkByte q from ?_, List.append_assoc]
    simp only [mkByte, hw11, e0]
  ·
   intro vs ls H9 E9 st hE
   exact absurd hni (of_decide_eq_false (bfact (x := decide ((i : Int) < (ms.length : Int))) st.inn 0 kr))
 ·
  obtain rfl : i = ms.length := by omega
  have qq4 : KdsL [.one, .int .i64, .int .i64] [.slice l 0 ms.length cap 1, .int .i64 q, .int .i64 (ms.length : Int)] := .cons rfl (.cons kA (.cons kA .nil))
  refine rD 0 10 [(.len (.nd 0 .one), .nd 2 (.int .i64))] [] [(0, .nd 0 .one), (1, .nd 1 (.int .i64)), (5, .nd 2 (.int .i64))] qq4 (.cons (rule_len (dNd rfl rfl) (dNd rfl ⟨_, rfl⟩)) .nil) (.cons c0 (.cons c1 (.cons ci .nil))) ?_
  refine all1 kr fun vs ls H23 E23 st hE => ?_
  have b24 := eo st hE 1 (.int .i64 q)
  have g25 : Grew H0 H23 := (gk st)
  have g26 : Only l H H23 := gO.grew g25
  have re := g25.at row
  refine res_exit (id := 0) kr ?_
  refine rC 0 10 [] [(1, .nd 1 (.int .i64))] qq4 (.cons b24 .nil) ?_
  refine all1 kr fun vs ls H9 E9 st hE => ?_
  have g9 : Grew H23 H9 := (gk st)
  refine res_ex kr (end_same st.inn hE (.inr rfl) (a := .int .i64 q) kr (g26.grew g9).next ⟨by rw [hq], g26.grew g9, ?_⟩)
  rw [g9.at re]; simp
end Go.Proofs.Ytnleibiniajbnaa
