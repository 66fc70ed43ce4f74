/- Contracts of the law's words for slices of records: Reading. -/
import Derived.Test.YtnleibiniajbnaaTReadL
import Derived.Test.YtnleibiniajbnaaSxE
set_option linter.unusedVariables false
set_option linter.unusedSimpArgs false
namespace Go.Proofs.Ytnleibiniajbnaa
open Go.Ab
set_option maxRecDepth 100000
attribute [local irreducible] Res
theorem k_szReadingS (H : AHeap) (ms : List (List AV)) (S : AV) (hS : SlL H 4 ms S) (left : Int) (h0 : -1 ≤ left) (h1 : left ≤ 4611686018427387904) (hm : ms.length ≤ 9223372036854775807) : APure Try.prog 40 [S, .int .i64 left] H (.int .i64 (if left - ms.length < 0 then -1 else left - ms.length)) := by
 have hw : IntKind.i64.wrap (left - (ms.length : Int)) = left - ms.length := wrap_i64 om om
 refine res_start h_laws_szReadingS (by simp) ?_
 refine run_mn (φ := φ0) (pm := pmR 0 [(.len (.nd 0 .one), .nd 1 (.int .i64))] 0) 20 (nk := [(.atom 0, .one), (.atom 1, .int .i64), (.atom 2, .int .i64)]) (fs := []) (xs := [S, .int .i64 (ms.length : Int), .int .i64 left]) (ws := []) (env := [(0, .nd 0 .one), (1, .nd 2 (.int .i64))]) ?_ ?_ tb_ok ap_ok ?_
 ·
  refine midN_in ?_ .nil _ .nil trivial ?_
  ·
   exact .cons rfl (slOne hS) (.cons rfl ⟨_, rfl⟩ (.cons rfl ⟨_, rfl⟩ .nil))
  ·
   exact .cons ⟨_, _, dNd rfl (slOne hS), dNd rfl ⟨_, rfl⟩, slLen hS⟩ .nil
 ·
  exact envNd rfl rfl (slOne hS) (envNd rfl rfl ⟨_, rfl⟩ envNil)
 refine all2 kr ?_ ?_
 ·
  intro vs ls H' E' st hE
  have f0 : decide (IntKind.i64.wrap (left - (ms.length : Int)) < 0) = true := bf st 0
  refine rf st hE (.int .i64 (-1)) (gk st) ?_
  rw [hw] at f0; rw [if_pos (of_decide_eq_true f0)]
 ·
  intro vs ls H' E' st hE
  have f0 : decide (IntKind.i64.wrap (left - (ms.length : Int)) < 0) = false := bf st 0
  refine rf st hE (.int .i64 (IntKind.i64.wrap (left - (ms.length : Int)))) (gk st) ?_
  rw [hw] at f0 ⊢; rw [if_neg (of_decide_eq_false f0)]
theorem k_toReadingS (H : AHeap) (ms : List (List AV)) (hr : Recs KR ms) (S : AV) (hS : SlL H 4 ms S) (hmax : ms.length ≤ 1048576) : ACalls Try.prog 42 [S] H fun r H' => Grew H H' ∧ ∃ l, H.next ≤ l ∧ r = .slice l 0 ms.length ms.length 4 ∧ H'.get l = some (.row ms.flatten true) := by
 refine res_start h_laws_toReadingS (by simp) ?_
 refine run_mn (φ := φ0) (pm := pmR 0 [(.len (.nd 0 .one), .nd 1 (.int .i64))] 0) 20 (nk := [(.atom 0, .one), (.atom 1, .int .i64)]) (fs := []) (xs := [S, .int .i64 (ms.length : Int)]) (ws := []) (env := [(0, .nd 0 .one)]) ?_ ?_ tb_ok ap_ok ?_
 ·
  refine midN_in ?_ .nil _ .nil trivial ?_
  ·
   exact .cons rfl (slOne hS) (.cons rfl ⟨_, rfl⟩ .nil)
  ·
   exact .cons ⟨_, _, dNd rfl (slOne hS), dNd rfl ⟨_, rfl⟩, slLen hS⟩ .nil
 ·
  exact envNd rfl rfl (slOne hS) envNil
 refine all1 kr fun vs ls H1 E1 st hE => ?_
 have a0 : E1 0 = S := env_of st.inn hE 0 kr
 have a6 : E1 6 = .int .i64 (ms.length : Int) := env_of st.inn hE 6 kr
 have g1 : Grew H H1 := (gk st)
 refine res_mk (d := some 7) (sz := 4) (bytes := 16) (zs := [.int .i64 0, .int .i16 0, .int .i16 0, .int .i16 0]) (x := .tmp 6) (y := .tmp 6) kr (n := ms.length) a6 a6 om om ?_
 have hlo : H.next ≤ H1.next := g1.next
 have g2 : Grew H (H1.new (.row (List.replicate ms.length ([.int .i64 0, .int .i16 0, .int .i16 0, .int .i16 0] : List AV)).flatten true)) := g1.new _
 have hrow : (H1.new (.row (List.replicate ms.length ([.int .i64 0, .int .i16 0, .int .i16 0, .int .i16 0] : List AV)).flatten true)).get H1.next = some (.row (List.replicate ms.length ([.int .i64 0, .int .i16 0, .int .i16 0, .int .i16 0] : List AV)).flatten true) := get_new_eq rfl
 refine run_mn (φ := φ0) (pm := pmR 0 [] 0) 20 (nk := [(.atom 0, .one), (.atom 1, .one)]) (fs := []) (xs := [S, .slice H1.next 0 ms.length ms.length 4]) (ws := []) (env := [(0, .nd 0 .one), (7, .nd 1 .one)]) ?_ ?_ tb_ok ap_ok ?_
 ·
  exact midN_in (by exact .cons rfl (slOne hS) (.cons rfl rfl .nil)) .nil _ .nil trivial .nil
 ·
  exact envNd (by rw [Env.put_some]; simpa using a0) rfl (slOne hS) (envNd (by rw [Env.put_some]; simp) rfl rfl envNil)
 generalize H1.new (.row (List.replicate ms.length ([.int .i64 0, .int .i16 0, .int .i16 0, .int .i16 0] : List AV)).flatten true) = HA at g2 hrow ⊢
 generalize H1.next = lo at hlo hrow ⊢
 clear g1 a0 a6
 refine all1 kr fun vs ls H2 E2 st hE => ?_
 have b0 := eo st hE 0 S
 have b3 := eo st hE 3 (.slice lo 0 ms.length ms.length 4)
 have b4 := eo st hE 4 (.int .i64 ((0 : Nat) : Int))
 have g3 : Grew HA H2 := (gk st)
 refine res_loop kr (fun k E H' => ∃ i, k + i = ms.length ∧ E 0 = S ∧ E 3 = .slice lo 0 ms.length ms.length 4 ∧ E 4 = .int .i64 (i : Int) ∧ Grew H H' ∧ H'.get lo = some (.row ((ms.take i).flatten ++ (List.replicate (ms.length - i) ([.int .i64 0, .int .i16 0, .int .i16 0, .int .i16 0] : List AV)).flatten) true)) ms.length
  ⟨0, by omega, b0, b3, b4, g2.trans g3, by rw [g3.at hrow]; simp⟩ ?_
 clear b0 b3 b4 g3 g2 hrow
 rintro k E3 H3 ⟨i, hk, c0, c3, c4, g4, hrow⟩
 have hso := slOne hS
 rcases Nat.lt_or_ge i ms.length with hlt | hge
 ·
  cases hS with
  | nil h => rw [h] at hlt; simp at hlt
  | @sl ls0 n cap rest wr2 hgS hn hc =>
   have hgS2 := g4.at hgS
   subst hn
   obtain ⟨v0, v1, v2, v3, hm⟩ := partsReading (hr.get hlt)
   refine run_mn (φ := φ0) (pm := pmR 1 [(.len (.nd 0 .one), .nd 1 (.int .i64)), (.ia 4 (.nd 0 .one) (.nd 2 (.int .i64)), .ptr 0 0), (.ia 4 (.nd 3 .one) (.nd 2 (.int .i64)), .nd 4 .one)] 0) 20
    (nk := [(.atom 0, .one), (.atom 1, .int .i64), (.atom 2, .int .i64), (.atom 3, .one), (.atom 4, .one)] ++ ([(.atom 5, .int .i64), (.atom 6, .int .i16), (.atom 7, .int .i16), (.atom 8, .int .i16)] ++ [(.bin .lss (.nd 2 (.int .i64)) (.nd 1 (.int .i64)), .bool)])) (fs := [(9, true)])
    (xs := [.slice ls0 0 ms.length cap 4, .int .i64 (ms.length : Int), .int .i64 (i : Int), .slice lo 0 ms.length ms.length 4, .ptr lo (i * 4), .int .i64 v0, .int .i16 v1, .int .i16 v2, .int .i16 v3, .bool true]) (ws := [⟨ls0, i * 4, nds 5 KR, false⟩]) (env := [(0, .nd 0 .one), (3, .nd 3 .one), (4, .nd 2 (.int .i64))]) ?_ ?_ tb_ok ap_ok ?_
   ·
    refine midN_in ?_ ?_ _ ?_ ?_ ?_
    ·
     refine .cons rfl rfl (.cons rfl ⟨_, rfl⟩ (.cons rfl ⟨_, rfl⟩ (.cons rfl rfl (.cons rfl rfl ?_))))
     (repeat (first | exact .nil | refine .cons rfl ⟨_, rfl⟩ ?_ | refine .cons rfl ⟨_, rfl, by assumption⟩ ?_ | refine .cons rfl am ?_))
     refine .cons ⟨_, _, dNd rfl ⟨_, rfl⟩, dNd rfl ⟨_, rfl⟩, ?_⟩ ⟨_, rfl⟩ .nil
     show some (AV.bool (decide ((i : Int) < (ms.length : Int)))) = _
     rw [decide_eq_true om]
    ·
     exact .cons rfl .nil
    ·
     exact .cons (win_elem hr hgS2 hlt rfl (by rw [hm]; exact (by repeat (first | exact dlNil | refine dlCons (dNd rfl ⟨_, rfl⟩) ?_ | refine dlCons (dNd rfl ⟨_, rfl, by assumption⟩) ?_ | refine dlCons (dNd rfl am) ?_)))) .nil
    ·
     exact ⟨fun v hv => (by cases hv), trivial⟩
    ·
     exact .cons (rule_len (o := 0) (dNd rfl rfl) (dNd rfl ⟨_, rfl⟩)) (.cons (rule_ia (k := i) (dNd rfl rfl) (dNd rfl ⟨_, rfl⟩) om rfl) (.cons (rule_ia' (k := i) (dNd rfl rfl) (dNd rfl ⟨_, rfl⟩) om (dNd rfl rfl)) .nil))
   ·
    exact envNd c0 rfl rfl (envNd c3 rfl rfl (envNd c4 rfl ⟨_, rfl⟩ envNil))
   ·
    refine all1 kr fun vs ls H4 E4 st hE => ?_
    have d0 : E4 0 = .slice ls0 0 ms.length cap 4 := env_of st.inn hE 0 kr
    have d3 : E4 3 = .slice lo 0 ms.length ms.length 4 := env_of st.inn hE 3 kr
    have d4 : E4 4 = .int .i64 (i : Int) := env_of st.inn hE 4 kr
    have d20 : E4 20 = .agg [.int .i64 v0, .int .i16 v1, .int .i16 v2, .int .i16 v3] := env_of st.inn hE 20 kr
    have d21 : E4 21 = .ptr lo (i * 4) := env_of st.inn hE 21 kr
    have g5 : Grew H3 H4 := (gk st)
    have hpl : (ms.take i).flatten.length = i * 4 := take_flat_len hr.len (Nat.le_of_lt hlt)
    have hk' : ms.length - i = (ms.length - (i + 1)) + 1 := by omega
    rw [hk'] at hrow
    have hl0 : i * 4 + 4 ≤ ((ms.take i).flatten ++ (List.replicate (ms.length - (i + 1) + 1) ([.int .i64 0, .int .i16 0, .int .i16 0, .int .i16 0] : List AV)).flatten).length := by
     rw [List.length_append, hpl, List.replicate_succ, List.flatten_cons, List.length_append]; simp only [List.length_cons, List.length_nil]; omega
    refine res_store (d := none) (n := 4) (x := .tmp 21) (y := .tmp 20) kr (vs := ms[i]) d21 (g5.at hrow) (by show AV.cells (E4 20) = _; rw [d20, hm]; rfl) (by rw [hm]; rfl) hl0 (by rw [hm]; rfl) ?_
    rw [laid_flat hpl (by rw [hm]; rfl) rfl, ← take_flat_succ hlt]
    have g6 : Grew H (H4.put lo (.row ((ms.take (i + 1)).flatten ++ (List.replicate (ms.length - (i + 1)) ([.int .i64 0, .int .i16 0, .int .i16 0, .int .i16 0] : List AV)).flatten) true)) := (g4.trans g5).put hlo _
    have hrow2 := get_put_eq (H := H4) (b := .row ((ms.take (i + 1)).flatten ++ (List.replicate (ms.length - (i + 1)) ([.int .i64 0, .int .i16 0, .int .i16 0, .int .i16 0] : List AV)).flatten) true) (l' := lo) rfl (H4.lt_of_get (g5.at hrow))
    generalize H4.put lo (.row ((ms.take (i + 1)).flatten ++ (List.replicate (ms.length - (i + 1)) ([.int .i64 0, .int .i16 0, .int .i16 0, .int .i16 0] : List AV)).flatten) true) = HB at g6 hrow2 ⊢
    refine run_mn (φ := φ0) (pm := pmR 0 [] 0) 20 (nk := [(.atom 0, .one), (.atom 1, .one), (.atom 2, .int .i64)]) (fs := []) (xs := [.slice ls0 0 ms.length cap 4, .slice lo 0 ms.length ms.length 4, .int .i64 (i : Int)]) (ws := []) (env := [(0, .nd 0 .one), (3, .nd 1 .one), (4, .nd 2 (.int .i64))]) ?_ ?_ tb_ok ap_ok ?_
    ·
     exact midN_in (by exact .cons rfl rfl (.cons rfl rfl (.cons rfl ⟨_, rfl⟩ .nil))) .nil _ .nil trivial .nil
    ·
     exact envNd d0 rfl rfl (envNd d3 rfl rfl (envNd d4 rfl ⟨_, rfl⟩ envNil))
    ·
     refine all1 kr fun vs ls H5 E5 st hE => ?_
     have g7 : Grew HB H5 := (gk st)
     refine res_norm kr ⟨k - 1, by omega, i + 1, by omega, env_of st.inn hE 0 kr, env_of st.inn hE 3 kr, ?_, g6.trans g7, g7.at hrow2⟩
     have := env_of st.inn hE 4 (a := .int .i64 (IntKind.i64.wrap ((i : Int) + 1))) kr
     rw [this, wrap64 om]
 ·
  obtain rfl : i = ms.length := by omega
  refine run_mn (φ := φ0) (pm := pmR 0 [(.len (.nd 0 .one), .nd 1 (.int .i64))] 0) 20 (nk := [(.atom 0, .one), (.atom 1, .int .i64), (.atom 2, .int .i64), (.atom 3, .one), (.bin .lss (.nd 2 (.int .i64)) (.nd 1 (.int .i64)), .bool)]) (fs := [(4, false)])
   (xs := [S, .int .i64 (ms.length : Int), .int .i64 (ms.length : Int), .slice lo 0 ms.length ms.length 4, .bool false]) (ws := []) (env := [(0, .nd 0 .one), (3, .nd 3 .one), (4, .nd 2 (.int .i64))]) ?_ ?_ tb_ok ap_ok ?_
  ·
   refine midN_in ?_ ?_ _ .nil trivial ?_
   ·
    refine .cons rfl hso (.cons rfl ⟨_, rfl⟩ (.cons rfl ⟨_, rfl⟩ (.cons rfl rfl (.cons ⟨_, _, dNd rfl ⟨_, rfl⟩, dNd rfl ⟨_, rfl⟩, ?_⟩ ⟨_, rfl⟩ .nil))))
    show some (AV.bool (decide ((ms.length : Int) < (ms.length : Int)))) = _
    rw [decide_eq_false om]
   ·
    exact .cons rfl .nil
   ·
    exact .cons ⟨_, _, dNd rfl hso, dNd rfl ⟨_, rfl⟩, slLen hS⟩ .nil
  ·
   exact envNd c0 rfl hso (envNd c3 rfl rfl (envNd c4 rfl ⟨_, rfl⟩ envNil))
  ·
   refine all1 kr fun vs ls H4 E4 st hE => ?_
   have d3 : E4 3 = .slice lo 0 ms.length ms.length 4 := env_of st.inn hE 3 kr
   have g5 : Grew H3 H4 := (gk st)
   refine res_exit (id := 0) kr ?_
   refine run_mn (φ := φ0) (pm := pmR 0 [] 0) 20 (nk := [(.atom 0, .one)]) (fs := []) (xs := [.slice lo 0 ms.length ms.length 4]) (ws := []) (env := [(3, .nd 0 .one)]) (midN_in (by exact .cons rfl rfl .nil) .nil _ .nil trivial .nil) (envNd d3 rfl rfl envNil) tb_ok ap_ok ?_
   refine all1 kr fun vs ls H5 E5 st hE => ?_
   have g6 : Grew H4 H5 := (gk st)
   refine res_ex kr (end_same st.inn hE (.inr rfl) (a := .slice lo 0 ms.length ms.length 4) kr ((g4.trans g5).trans g6).next ⟨(g4.trans g5).trans g6, lo, hlo, rfl, ?_⟩)
   rw [(g5.trans g6).at hrow, List.take_length, Nat.sub_self]; simp
theorem w_toReadingS (H : AHeap) (ms : List (List AV)) (hr : Recs KR ms) (S : AV) (hS : SlL H 4 ms S) (hmax : ms.length ≤ 1048576) : ACalls Try.prog 42 [S] H fun r H' => Grew H H' ∧ SlW H' 4 ms r ∧ FreshS H.next r := by
 refine (k_toReadingS H ms hr S hS hmax).mono ?_
 rintro r H' ⟨g, l, hl, rfl, row⟩
 exact ⟨g, .sl (rest := []) (by simpa using row) rfl (Nat.le_refl _), .of_le hl⟩
end Go.Proofs.Ytnleibiniajbnaa
