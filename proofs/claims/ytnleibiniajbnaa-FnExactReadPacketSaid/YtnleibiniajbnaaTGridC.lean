/- Contracts: grids that are the same; copies of grids. -/
import Derived.Test.YtnleibiniajbnaaTGridB
import Derived.Test.YtnleibiniajbnaaSxD
import Derived.Test.YtnleibiniajbnaaSxE
set_option linter.unusedVariables false
set_option linter.unusedSimpArgs false
namespace Go.Proofs.Ytnleibiniajbnaa
open Go.Ab
set_option maxRecDepth 100000
set_option maxHeartbeats 1000000
attribute [local irreducible] Res
theorem w_toByteS (H : AHeap) (ms : List (List AV)) (hr : Recs KB ms) (S : AV) (hS : SlL H 1 ms S) (mxms : ms.length ≤ 1048576) : ACalls Try.prog 33 [S] H fun r H' => Grew H H' ∧ SlW H' 1 ms r ∧ FreshS H.next r := by
 refine res_start h_laws_toByteS (by simp) ?_
 have q1 : KdsL [.one, KI] [S, .int .i64 (ms.length : Int)] := kL
 refine rD 0 0 [(.len (n1 0), nI 1)] [] [(0, n1 0)] q1 (.cons (⟨_, _, (dE q1), (dE q1), slLen hS⟩) .nil) (.cons (t := 0) rfl .nil) ?_
 refine all1 kr fun vs ls H2 E2 st hE => ?_
 have b3 := eo st hE 6 (.int .i64 (ms.length : Int))
 have B1 := es st hE [(6, .int .i64 (ms.length : Int)), (0, S)]
 have g5 : Grew H H2 := (gk st)
 have g6 : Grew H H2 := Grew.trans (Grew.refl _) g5
 refine res_mk (d := some 7) (sz := 1) (bytes := 1) (zs := [.int .u8 0]) (x := .tmp 6) (y := .tmp 6) kr (n := ms.length) b3 b3 om om ?_
 have hlo : H.next ≤ H2.next := g6.next
 have gA : Grew H (H2.new (.row (List.replicate ms.length ([.int .u8 0] : List AV)).flatten true)) := g6.new _
 have rowA : (H2.new (.row (List.replicate ms.length ([.int .u8 0] : List AV)).flatten true)).get H2.next = some (.row (List.replicate ms.length ([.int .u8 0] : List AV)).flatten true) := by rw [AHeap.new_get, if_pos rfl]
 generalize H2.new (.row (List.replicate ms.length ([.int .u8 0] : List AV)).flatten true) = HA at gA rowA ⊢
 generalize hloe : H2.next = lo at hlo rowA ⊢
 have q7 : KdsL [.one, KI, .one] [S, .int .i64 (ms.length : Int), .slice lo 0 ms.length ms.length 1] := .cons (slOne hS) (.cons kA (.cons rfl .nil))
 refine rC 0 0 [] [(6, nI 1), (0, n1 0), (7, n1 2)] q7 (sc (sp B1) (.cons put_same .nil)) ?_
 refine all1 kr fun vs ls H8 E8 st hE => ?_
 have b9 := eo st hE 4 (.int .i64 0)
 have b10 := eo st hE 0 S
 have b11 := eo st hE 3 (.slice lo 0 ms.length ms.length 1)
 have g12 : Grew HA H8 := (gk st)
 have g13 := Grew.trans gA g12
 refine res_loop kr (fun z E H' => ∃ i, z + i = ms.length ∧ E 0 = S ∧ E 3 = .slice lo 0 ms.length ms.length 1 ∧ E 4 = .int .i64 (i : Int) ∧ Grew H H' ∧ H'.get lo = some (.row ((ms.take i).flatten ++ (List.replicate (ms.length - i) ([.int .u8 0] : List AV)).flatten) true)) ms.length
  ⟨0, by omega, b10, b11, b9, g13, by rw [g12.at rowA]; simp⟩ ?_
 rintro z E0 H0 ⟨i, hz, c0, c3, ci, gO, row⟩
 rcases Nat.lt_or_ge i ms.length with hlt | hge
 ·
  obtain ⟨v0, hm⟩ := partsByte (hr.get hlt)
  obtain ⟨lS, cap, rest, wr, eS, gB⟩ := hS.isSl hlt
  have gS := gO.at gB
  have hza : z - 1 < z := by omega
  have hzb : z - 1 + (i + 1) = ms.length := by omega
  have hnj : (i : Int) < (ms.length : Int) := by omega
  have hiw : IntKind.i64.wrap ((i : Int) + 1) = ((i + 1 : Nat) : Int) := wrap64 om
  have hpl : (ms.take i).flatten.length = i * 1 := take_flat_len hr.len (Nat.le_of_lt hlt)
  have hsp : ms.length - i = (ms.length - (i + 1)) + 1 := by omega
  rw [hsp, List.replicate_succ, List.flatten_cons] at row
  have htk : (ms.take (i + 1)).flatten = (ms.take i).flatten ++ [.int .u8 v0] := by rw [take_flat_succ hlt, hm]
  have q14 : KdsL [.one, .one, KI, KI, .one, .int .u8] [S, .slice lo 0 ms.length ms.length 1, .int .i64 (i : Int), .int .i64 (ms.length : Int), .ptr lo (i * 1), .int .u8 v0] := .cons (slOne hS) (.cons rfl (.cons kA (.cons kA (.cons rfl (.cons kA .nil)))))
  refine run_mc (φ := φ0) (pm := pmR 1 [(.len (n1 0), nI 3), (.ia 1 (n1 0) (nI 2), .ptr 0 0), (.ia 1 (n1 1) (nI 2), n1 4)] 10) 20 (ws := [⟨lS, (i * 1), [.nd 5 (.int .u8)], false⟩]) (env := [(4, nI 2), (0, n1 0), (3, n1 1)]) q14 (.cons (win_elem hr gS hlt rfl (by rw [hm]; exact (dL q14))) .nil) (sepOk_ro rfl) (.cons (⟨_, _, dNd rfl (slOne hS), dNd rfl ⟨_, rfl⟩, slLen hS⟩) (.cons (rule_iaS (k := i) (dNd rfl (slOne hS)) eS (dNd rfl ⟨_, rfl⟩) hlt rfl) (.cons (rule_ia' (k := i) (dNd rfl rfl) (dNd rfl ⟨_, rfl⟩) hlt (dNd rfl rfl)) .nil))) (eC q14 (.cons ci (.cons c0 (.cons c3 .nil)))) tb_ok ap_ok ?_
  refine all2 kr ?_ ?_
  ·
   intro vs ls H15 E15 st hE
   have f16 : (i : Int) < (ms.length : Int) := dt st 0
   have B2 := es st hE [(0, S), (3, .slice lo 0 ms.length ms.length 1), (4, .int .i64 (i : Int))]
   have b20 := eo st hE 20 (.ptr lo (i * 1))
   have b21 := eo st hE 19 (.int .u8 v0)
   have g22 : Grew H0 H15 := (gk st)
   have g23 := Grew.trans gO g22
   have row2 := g22.at row
   refine res_store_in (d := none) (n := 1) (x := .tmp 20) (y := .tmp 19) kr (b := i * 1) (off := 0) (C := [.int .u8 0]) (C' := [.int .u8 v0]) (vs := [.int .u8 v0]) b20 row2 hpl (by show AV.cells (E15 19) = _; rw [b21]; rfl) rfl (by simp) rfl rfl ?_
   intro H7 row7 o7
   have gO7 : Grew H H7 := ⟨Nat.le_trans g23.next o7.next, fun l hl => (o7.get l (Nat.lt_of_lt_of_le hl g23.next) om).trans (g23.get l hl)⟩
   rw [← List.append_assoc, ← htk] at row7
   refine rC 0 10 [] [(0, n1 0), (3, n1 1), (4, nI 2)] q14 (sn B2) ?_
   refine all1 kr fun vs ls H9 E9 st hE => ?_
   have g9 : Grew H7 H9 := (gk st)
   have z0 : E9 0 = S := env_of st.inn hE 0 kr
   have z3 : E9 3 = .slice lo 0 ms.length ms.length 1 := env_of st.inn hE 3 kr
   have zi : E9 4 = .int .i64 (IntKind.wrap .i64 ((i : Int) + 1)) := env_of st.inn hE 4 kr
   exact res_norm kr ⟨z - 1, hza, i + 1, hzb, z0, z3, by rw [zi, hiw], gO7.trans g9, g9.at row7⟩
  ·
   intro vs ls H9 E9 st hE
   exact absurd hnj (of_decide_eq_false (bfact (x := decide ((i : Int) < (ms.length : Int))) st.inn 0 kr))
 ·
  obtain rfl : i = ms.length := by omega
  have q26 : KdsL [.one, .one, KI] [S, .slice lo 0 ms.length ms.length 1, .int .i64 (ms.length : Int)] := .cons (slOne hS) (.cons rfl (.cons kA .nil))
  refine rD 0 10 [(.len (n1 0), nI 2)] [] [(4, nI 2), (0, n1 0), (3, n1 1)] q26 (.cons (⟨_, _, dNd rfl (slOne hS), dNd rfl ⟨_, rfl⟩, slLen hS⟩) .nil) (.cons ci (.cons c0 (.cons c3 .nil))) ?_
  refine all1 kr fun vs ls H27 E27 st hE => ?_
  have b28 := eo st hE 3 (.slice lo 0 ms.length ms.length 1)
  have g29 : Grew H0 H27 := (gk st)
  have g30 := Grew.trans gO g29
  have re := g29.at row
  rw [Nat.sub_self, List.take_length] at re
  refine res_exit (id := 0) kr ?_
  refine rC 0 10 [] [(3, n1 1)] q26 (.cons b28 .nil) ?_
  refine all1 kr fun vs ls H9 E9 st hE => ?_
  have g9 : Grew H27 H9 := (gk st)
  exact res_ex kr (end_same st.inn hE (.inr rfl) (a := .slice lo 0 ms.length ms.length 1) kr (Nat.le_trans g30.next g9.next) ⟨g30.trans g9, .sl (rest := []) (by simpa using g9.at re) rfl (Nat.le_refl _), .of_le hlo⟩)
open Classical
end Go.Proofs.Ytnleibiniajbnaa
