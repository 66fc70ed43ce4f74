/- Contracts of the law's words for slices of records: Mark. -/
import Derived.Test.YtacligocjfhckaaTMark
set_option linter.unusedVariables false
set_option linter.unusedSimpArgs false
namespace Go.Proofs.Ytacligocjfhckaa
open Go.Ab
set_option maxRecDepth 100000
attribute [local irreducible] Res
theorem partsMark {m : List AV} (h : KdsL KM m) : ∃ (v0 : Int) (v1 : Int) (v2 : Int) (v3 : Option Nat) (v4 : Option Nat) (v5 : Option Nat) (v6 : Option Nat) (v7 : Int) (v8 : Int), m = [.int .i32 v0, .int .i32 v1, .int .i32 v2, .flt .f32 v3, .flt .f32 v4, .flt .f32 v5, .flt .f32 v6, .int .i64 v7, .int .i64 v8] ∧ fOk .f32 v3 ∧ fOk .f32 v4 ∧ fOk .f32 v5 ∧ fOk .f32 v6 := by
 cases h with
 | cons g0 h => cases h with
 | cons g1 h => cases h with
 | cons g2 h => cases h with
 | cons g3 h => cases h with
 | cons g4 h => cases h with
 | cons g5 h => cases h with
 | cons g6 h => cases h with
 | cons g7 h => cases h with
 | cons g8 h => cases h with
 | nil =>
 obtain ⟨v0, rfl⟩ := g0
 obtain ⟨v1, rfl⟩ := g1
 obtain ⟨v2, rfl⟩ := g2
 obtain ⟨v3, rfl, o3⟩ := g3
 obtain ⟨v4, rfl, o4⟩ := g4
 obtain ⟨v5, rfl, o5⟩ := g5
 obtain ⟨v6, rfl, o6⟩ := g6
 obtain ⟨v7, rfl⟩ := g7
 obtain ⟨v8, rfl⟩ := g8
 exact ⟨_, _, _, _, _, _, _, _, _, rfl, o3, o4, o5, o6⟩
theorem k_szMarkS (H : AHeap) (ms : List (List AV)) (S : AV) (hS : SlL H 9 ms S) (left : Int) (h0 : 0 ≤ left) (h1 : left ≤ 4611686018427387904) (hm : ms.length ≤ 9223372036854775807) : APure Try.prog 27 [S, .int .i64 left] H (.int .i64 (if left - ms.length < 0 then -1 else left - ms.length)) := by
 have hw : IntKind.i64.wrap (left - (ms.length : Int)) = left - ms.length := wrap_i64 (by omega) (by omega)
 refine res_start h_laws_szMarkS (by simp) ?_
 refine run_mn (φ := φ0) (pm := pmR 0 [(.len (.nd 0 .one), .nd 1 (.int .i64))] 0) 20 (nk := [(.atom 0, .one), (.atom 1, .int .i64), (.atom 2, .int .i64)]) (fs := []) (xs := [S, .int .i64 (ms.length : Int), .int .i64 left]) (ws := []) (env := [(0, .nd 0 .one), (1, .nd 2 (.int .i64))]) ?_ ?_ tb_ok ap_ok ?_
 ·
  refine midN_in ?_ .nil _ .nil trivial ?_
  ·
   exact .cons rfl (slOne hS) (.cons rfl ⟨_, rfl⟩ (.cons rfl ⟨_, rfl⟩ .nil))
  ·
   exact .cons ⟨_, _, dNd rfl (slOne hS), dNd rfl ⟨_, rfl⟩, slLen hS⟩ .nil
 ·
  exact envNd rfl rfl (slOne hS) (envNd rfl rfl ⟨_, rfl⟩ envNil)
 refine all2 (by kernel_rfl) ?_ ?_
 ·
  intro vs ls H' E' st hE
  have f0 : decide (IntKind.i64.wrap (left - (ms.length : Int)) < 0) = true := bf st 0
  refine res_ex (by kernel_rfl) (end_flat st.inn hE (.inr rfl) (a := .int .i64 (-1)) (by kernel_rfl) (gk st) rfl ⟨?_, rfl⟩)
  rw [hw] at f0; rw [if_pos (of_decide_eq_true f0)]
 ·
  intro vs ls H' E' st hE
  have f0 : decide (IntKind.i64.wrap (left - (ms.length : Int)) < 0) = false := bf st 0
  refine res_ex (by kernel_rfl) (end_flat st.inn hE (.inr rfl) (a := .int .i64 (IntKind.i64.wrap (left - (ms.length : Int)))) (by kernel_rfl) (gk st) rfl ⟨?_, rfl⟩)
  rw [hw] at f0 ⊢; rw [if_neg (of_decide_eq_false f0)]
theorem k_toMarkS (H : AHeap) (ms : List (List AV)) (hr : Recs KM ms) (S : AV) (hS : SlL H 9 ms S) (hmax : ms.length ≤ 1048576) : ACalls Try.prog 32 [S] H fun r H' => Grew H H' ∧ ∃ l, H.next ≤ l ∧ r = .slice l 0 ms.length ms.length 9 ∧ H'.get l = some (.row ms.flatten true) := by
 refine res_start h_laws_toMarkS (by simp) ?_
 refine run_mn (φ := φ0) (pm := pmR 0 [(.len (.nd 0 .one), .nd 1 (.int .i64))] 0) 20 (nk := [(.atom 0, .one), (.atom 1, .int .i64)]) (fs := []) (xs := [S, .int .i64 (ms.length : Int)]) (ws := []) (env := [(0, .nd 0 .one)]) ?_ ?_ tb_ok ap_ok ?_
 ·
  refine midN_in ?_ .nil _ .nil trivial ?_
  ·
   exact .cons rfl (slOne hS) (.cons rfl ⟨_, rfl⟩ .nil)
  ·
   exact .cons ⟨_, _, dNd rfl (slOne hS), dNd rfl ⟨_, rfl⟩, slLen hS⟩ .nil
 ·
  exact envNd rfl rfl (slOne hS) envNil
 refine all1 (by kernel_rfl) ?_
 intro vs ls H1 E1 st hE
 have a0 : E1 0 = S := env_of st.inn hE 0 (by kernel_rfl)
 have a6 : E1 6 = .int .i64 (ms.length : Int) := env_of st.inn hE 6 (by kernel_rfl)
 have g1 : Grew H H1 := (gk st)
 clear st hE vs ls
 refine res_mk (d := some 7) (sz := 9) (bytes := 48) (zs := [.int .i32 0, .int .i32 0, .int .i32 0, .flt .f32 (some 0), .flt .f32 (some 0), .flt .f32 (some 0), .flt .f32 (some 0), .int .i64 0, .int .i64 0]) (x := .tmp 6) (y := .tmp 6) (by kernel_rfl) (n := ms.length) a6 a6 (by omega) (by omega) ?_
 have hlo : H.next ≤ H1.next := g1.next
 have g2 : Grew H (H1.new (.row (List.replicate ms.length ([.int .i32 0, .int .i32 0, .int .i32 0, .flt .f32 (some 0), .flt .f32 (some 0), .flt .f32 (some 0), .flt .f32 (some 0), .int .i64 0, .int .i64 0] : List AV)).flatten true)) := g1.new _
 have hrow : (H1.new (.row (List.replicate ms.length ([.int .i32 0, .int .i32 0, .int .i32 0, .flt .f32 (some 0), .flt .f32 (some 0), .flt .f32 (some 0), .flt .f32 (some 0), .int .i64 0, .int .i64 0] : List AV)).flatten true)).get H1.next = some (.row (List.replicate ms.length ([.int .i32 0, .int .i32 0, .int .i32 0, .flt .f32 (some 0), .flt .f32 (some 0), .flt .f32 (some 0), .flt .f32 (some 0), .int .i64 0, .int .i64 0] : List AV)).flatten true) := get_new_eq rfl
 refine run_mn (φ := φ0) (pm := pmR 0 [] 0) 20 (nk := [(.atom 0, .one), (.atom 1, .one)]) (fs := []) (xs := [S, .slice H1.next 0 ms.length ms.length 9]) (ws := []) (env := [(0, .nd 0 .one), (7, .nd 1 .one)]) ?_ ?_ tb_ok ap_ok ?_
 ·
  exact midN_in (by exact .cons rfl (slOne hS) (.cons rfl rfl .nil)) .nil _ .nil trivial .nil
 ·
  exact envNd (by rw [Env.put_some]; simpa using a0) rfl (slOne hS) (envNd (by rw [Env.put_some]; simp) rfl rfl envNil)
 generalize H1.new (.row (List.replicate ms.length ([.int .i32 0, .int .i32 0, .int .i32 0, .flt .f32 (some 0), .flt .f32 (some 0), .flt .f32 (some 0), .flt .f32 (some 0), .int .i64 0, .int .i64 0] : List AV)).flatten true) = HA at g2 hrow ⊢
 generalize H1.next = lo at hlo hrow ⊢
 clear g1 a0 a6
 refine all1 (by kernel_rfl) ?_
 intro vs ls H2 E2 st hE
 have b0 := eo st hE 0 S
 have b3 := eo st hE 3 (.slice lo 0 ms.length ms.length 9)
 have b4 := eo st hE 4 (.int .i64 ((0 : Nat) : Int))
 have g3 : Grew HA H2 := (gk st)
 clear st hE vs ls
 refine res_loop (by kernel_rfl) (fun k E H' => ∃ i, k + i = ms.length ∧ E 0 = S ∧ E 3 = .slice lo 0 ms.length ms.length 9 ∧ E 4 = .int .i64 (i : Int) ∧ Grew H H' ∧ H'.get lo = some (.row ((ms.take i).flatten ++ (List.replicate (ms.length - i) ([.int .i32 0, .int .i32 0, .int .i32 0, .flt .f32 (some 0), .flt .f32 (some 0), .flt .f32 (some 0), .flt .f32 (some 0), .int .i64 0, .int .i64 0] : List AV)).flatten) true)) ms.length
  ⟨0, by omega, b0, b3, b4, g2.trans g3, by rw [g3.at hrow]; simp⟩ ?_
 clear b0 b3 b4 g3 g2 hrow
 rintro k E3 H3 ⟨i, hk, c0, c3, c4, g4, hrow⟩
 have hso := slOne hS
 rcases Nat.lt_or_ge i ms.length with hlt | hge
 ·
  cases hS with
  | nil h => rw [h] at hlt; simp at hlt
  | @sl ls0 n cap rest wr2 hgS hn hc =>
   have hgS2 := g4.at hgS
   subst hn
   obtain ⟨v0, v1, v2, v3, v4, v5, v6, v7, v8, hm, o3, o4, o5, o6⟩ := partsMark (hr.get hlt)
   refine run_mn (φ := φ0) (pm := pmR 1 [(.len (.nd 0 .one), .nd 1 (.int .i64)), (.ia 9 (.nd 0 .one) (.nd 2 (.int .i64)), .ptr 0 0), (.ia 9 (.nd 3 .one) (.nd 2 (.int .i64)), .nd 4 .one)] 0) 20
    (nk := [(.atom 0, .one), (.atom 1, .int .i64), (.atom 2, .int .i64), (.atom 3, .one), (.atom 4, .one)] ++ ([(.atom 5, .int .i32), (.atom 6, .int .i32), (.atom 7, .int .i32), (.atom 8, .flt .f32), (.atom 9, .flt .f32), (.atom 10, .flt .f32), (.atom 11, .flt .f32), (.atom 12, .int .i64), (.atom 13, .int .i64)] ++ [(.bin .lss (.nd 2 (.int .i64)) (.nd 1 (.int .i64)), .bool)])) (fs := [(14, true)])
    (xs := [.slice ls0 0 ms.length cap 9, .int .i64 (ms.length : Int), .int .i64 (i : Int), .slice lo 0 ms.length ms.length 9, .ptr lo (i * 9), .int .i32 v0, .int .i32 v1, .int .i32 v2, .flt .f32 v3, .flt .f32 v4, .flt .f32 v5, .flt .f32 v6, .int .i64 v7, .int .i64 v8, .bool true]) (ws := [⟨ls0, i * 9, nds 5 KM, false⟩]) (env := [(0, .nd 0 .one), (3, .nd 3 .one), (4, .nd 2 (.int .i64))]) ?_ ?_ tb_ok ap_ok ?_
   ·
    refine midN_in ?_ ?_ _ ?_ ?_ ?_
    ·
     refine .cons rfl rfl (.cons rfl ⟨_, rfl⟩ (.cons rfl ⟨_, rfl⟩ (.cons rfl rfl (.cons rfl rfl ?_))))
     (repeat (first | exact .nil | refine .cons rfl ⟨_, rfl⟩ ?_ | refine .cons rfl ⟨_, rfl, by assumption⟩ ?_ | refine .cons rfl (by assumption) ?_))
     refine .cons ⟨_, _, dNd rfl ⟨_, rfl⟩, dNd rfl ⟨_, rfl⟩, ?_⟩ ⟨_, rfl⟩ .nil
     show some (AV.bool (decide ((i : Int) < (ms.length : Int)))) = _
     rw [decide_eq_true (by omega)]
    ·
     exact .cons rfl .nil
    ·
     exact .cons (win_elem hr hgS2 hlt rfl (by rw [hm]; exact (by repeat (first | exact dlNil | refine dlCons (dNd rfl ⟨_, rfl⟩) ?_ | refine dlCons (dNd rfl ⟨_, rfl, by assumption⟩) ?_ | refine dlCons (dNd rfl (by assumption)) ?_)))) .nil
    ·
     exact ⟨fun v hv => (by cases hv), trivial⟩
    ·
     exact .cons (rule_len (o := 0) (dNd rfl rfl) (dNd rfl ⟨_, rfl⟩)) (.cons (rule_ia (k := i) (dNd rfl rfl) (dNd rfl ⟨_, rfl⟩) (by omega) rfl) (.cons (rule_ia' (k := i) (dNd rfl rfl) (dNd rfl ⟨_, rfl⟩) (by omega) (dNd rfl rfl)) .nil))
   ·
    exact envNd c0 rfl rfl (envNd c3 rfl rfl (envNd c4 rfl ⟨_, rfl⟩ envNil))
   ·
    refine all1 (by kernel_rfl) ?_
    intro vs ls H4 E4 st hE
    have d0 : E4 0 = .slice ls0 0 ms.length cap 9 := env_of st.inn hE 0 (by kernel_rfl)
    have d3 : E4 3 = .slice lo 0 ms.length ms.length 9 := env_of st.inn hE 3 (by kernel_rfl)
    have d4 : E4 4 = .int .i64 (i : Int) := env_of st.inn hE 4 (by kernel_rfl)
    have d20 : E4 20 = .agg [.int .i32 v0, .int .i32 v1, .int .i32 v2, .flt .f32 v3, .flt .f32 v4, .flt .f32 v5, .flt .f32 v6, .int .i64 v7, .int .i64 v8] := env_of st.inn hE 20 (by kernel_rfl)
    have d21 : E4 21 = .ptr lo (i * 9) := env_of st.inn hE 21 (by kernel_rfl)
    have g5 : Grew H3 H4 := (gk st)
    clear st hE vs ls
    have hpl : (ms.take i).flatten.length = i * 9 := take_flat_len hr.len (Nat.le_of_lt hlt)
    have hk' : ms.length - i = (ms.length - (i + 1)) + 1 := by omega
    rw [hk'] at hrow
    have hl0 : i * 9 + 9 ≤ ((ms.take i).flatten ++ (List.replicate (ms.length - (i + 1) + 1) ([.int .i32 0, .int .i32 0, .int .i32 0, .flt .f32 (some 0), .flt .f32 (some 0), .flt .f32 (some 0), .flt .f32 (some 0), .int .i64 0, .int .i64 0] : List AV)).flatten).length := by
     rw [List.length_append, hpl, List.replicate_succ, List.flatten_cons, List.length_append]; simp only [List.length_cons, List.length_nil]; omega
    refine res_store (d := none) (n := 9) (x := .tmp 21) (y := .tmp 20) (by kernel_rfl) (vs := ms[i]) d21 (g5.at hrow) (by show AV.cells (E4 20) = _; rw [d20, hm]; rfl) (by rw [hm]; rfl) hl0 (by rw [hm]; rfl) ?_
    rw [laid_flat hpl (by rw [hm]; rfl) rfl, ← take_flat_succ hlt]
    have g6 : Grew H (H4.put lo (.row ((ms.take (i + 1)).flatten ++ (List.replicate (ms.length - (i + 1)) ([.int .i32 0, .int .i32 0, .int .i32 0, .flt .f32 (some 0), .flt .f32 (some 0), .flt .f32 (some 0), .flt .f32 (some 0), .int .i64 0, .int .i64 0] : List AV)).flatten) true)) := (g4.trans g5).put hlo _
    have hrow2 := get_put_eq (H := H4) (b := .row ((ms.take (i + 1)).flatten ++ (List.replicate (ms.length - (i + 1)) ([.int .i32 0, .int .i32 0, .int .i32 0, .flt .f32 (some 0), .flt .f32 (some 0), .flt .f32 (some 0), .flt .f32 (some 0), .int .i64 0, .int .i64 0] : List AV)).flatten) true) (l' := lo) rfl (H4.lt_of_get (g5.at hrow))
    generalize H4.put lo (.row ((ms.take (i + 1)).flatten ++ (List.replicate (ms.length - (i + 1)) ([.int .i32 0, .int .i32 0, .int .i32 0, .flt .f32 (some 0), .flt .f32 (some 0), .flt .f32 (some 0), .flt .f32 (some 0), .int .i64 0, .int .i64 0] : List AV)).flatten) true) = HB at g6 hrow2 ⊢
    refine run_mn (φ := φ0) (pm := pmR 0 [] 0) 20 (nk := [(.atom 0, .one), (.atom 1, .one), (.atom 2, .int .i64)]) (fs := []) (xs := [.slice ls0 0 ms.length cap 9, .slice lo 0 ms.length ms.length 9, .int .i64 (i : Int)]) (ws := []) (env := [(0, .nd 0 .one), (3, .nd 1 .one), (4, .nd 2 (.int .i64))]) ?_ ?_ tb_ok ap_ok ?_
    ·
     exact midN_in (by exact .cons rfl rfl (.cons rfl rfl (.cons rfl ⟨_, rfl⟩ .nil))) .nil _ .nil trivial .nil
    ·
     exact envNd d0 rfl rfl (envNd d3 rfl rfl (envNd d4 rfl ⟨_, rfl⟩ envNil))
    ·
     refine all1 (by kernel_rfl) ?_
     intro vs ls H5 E5 st hE
     have g7 : Grew HB H5 := (gk st)
     refine res_norm (by kernel_rfl) ⟨k - 1, by omega, i + 1, by omega, env_of st.inn hE 0 (by kernel_rfl), env_of st.inn hE 3 (by kernel_rfl), ?_, g6.trans g7, g7.at hrow2⟩
     have := env_of st.inn hE 4 (a := .int .i64 (IntKind.i64.wrap ((i : Int) + 1))) (by kernel_rfl)
     rw [this, wrap64 (by omega)]
 ·
  obtain rfl : i = ms.length := by omega
  refine run_mn (φ := φ0) (pm := pmR 0 [(.len (.nd 0 .one), .nd 1 (.int .i64))] 0) 20 (nk := [(.atom 0, .one), (.atom 1, .int .i64), (.atom 2, .int .i64), (.atom 3, .one), (.bin .lss (.nd 2 (.int .i64)) (.nd 1 (.int .i64)), .bool)]) (fs := [(4, false)])
   (xs := [S, .int .i64 (ms.length : Int), .int .i64 (ms.length : Int), .slice lo 0 ms.length ms.length 9, .bool false]) (ws := []) (env := [(0, .nd 0 .one), (3, .nd 3 .one), (4, .nd 2 (.int .i64))]) ?_ ?_ tb_ok ap_ok ?_
  ·
   refine midN_in ?_ ?_ _ .nil trivial ?_
   ·
    refine .cons rfl hso (.cons rfl ⟨_, rfl⟩ (.cons rfl ⟨_, rfl⟩ (.cons rfl rfl (.cons ⟨_, _, dNd rfl ⟨_, rfl⟩, dNd rfl ⟨_, rfl⟩, ?_⟩ ⟨_, rfl⟩ .nil))))
    show some (AV.bool (decide ((ms.length : Int) < (ms.length : Int)))) = _
    rw [decide_eq_false (by omega)]
   ·
    exact .cons rfl .nil
   ·
    exact .cons ⟨_, _, dNd rfl hso, dNd rfl ⟨_, rfl⟩, slLen hS⟩ .nil
  ·
   exact envNd c0 rfl hso (envNd c3 rfl rfl (envNd c4 rfl ⟨_, rfl⟩ envNil))
  ·
   refine all1 (by kernel_rfl) ?_
   intro vs ls H4 E4 st hE
   have d3 : E4 3 = .slice lo 0 ms.length ms.length 9 := env_of st.inn hE 3 (by kernel_rfl)
   have g5 : Grew H3 H4 := (gk st)
   clear st hE vs ls
   refine res_exit (id := 0) (by kernel_rfl) ?_
   refine run_mn (φ := φ0) (pm := pmR 0 [] 0) 20 (nk := [(.atom 0, .one)]) (fs := []) (xs := [.slice lo 0 ms.length ms.length 9]) (ws := []) (env := [(3, .nd 0 .one)]) (midN_in (by exact .cons rfl rfl .nil) .nil _ .nil trivial .nil) (envNd d3 rfl rfl envNil) tb_ok ap_ok ?_
   refine all1 (by kernel_rfl) ?_
   intro vs ls H5 E5 st hE
   have g6 : Grew H4 H5 := (gk st)
   refine res_ex (by kernel_rfl) (end_same st.inn hE (.inr rfl) (a := .slice lo 0 ms.length ms.length 9) (by kernel_rfl) ((g4.trans g5).trans g6).next ⟨(g4.trans g5).trans g6, lo, hlo, rfl, ?_⟩)
   rw [(g5.trans g6).at hrow, List.take_length, Nat.sub_self]; simp
theorem k_eqMark (m : List AV) (hm : KdsL KM m) (H : AHeap) : APure Try.prog 64 [.agg m, .agg m] H (.bool true) := by
 have hd := nds_of hm [] [] 0 rfl
 simp only [List.nil_append, List.append_nil] at hd
 exact lit_call (φ := φ0) (pm := pm) 20 rfl rfl tb_ok ap_ok hm (dlCons (dAgg hd) (dlCons (dAgg hd) dlNil)) (by kernel_rfl) H
theorem k_eqMarkS (H : AHeap) (ms : List (List AV)) (hr : Recs KM ms) (S S' : AV) (hS : SlL H 9 ms S) (hS' : SlL H 9 ms S') (hmax : ms.length < 2 ^ 40) : APure Try.prog 39 [S, S'] H (.bool true) := by
 refine res_start h_laws_eqMarkS (by simp) ?_
 refine run_mn (φ := φ0) (pm := pmR 0 [(.len (.nd 0 .one), .nd 2 (.int .i64)), (.len (.nd 1 .one), .nd 2 (.int .i64))] 0) 20 (nk := [(.atom 0, .one), (.atom 1, .one), (.atom 2, .int .i64)]) (fs := []) (xs := [S, S', .int .i64 (ms.length : Int)]) (ws := []) (env := [(0, .nd 0 .one), (1, .nd 1 .one)]) ?_ ?_ tb_ok ap_ok ?_
 ·
  refine midN_in ?_ .nil _ .nil trivial ?_
  ·
   exact .cons rfl (slOne hS) (.cons rfl (slOne hS') (.cons rfl ⟨_, rfl⟩ .nil))
  ·
   exact .cons ⟨_, _, dNd rfl (slOne hS), dNd rfl ⟨_, rfl⟩, slLen hS⟩ (.cons ⟨_, _, dNd rfl (slOne hS'), dNd rfl ⟨_, rfl⟩, slLen hS'⟩ .nil)
 ·
  exact envNd rfl rfl (slOne hS) (envNd rfl rfl (slOne hS') envNil)
 refine all1 (by kernel_rfl) ?_
 intro vs ls H1 E1 st hE
 have a0 : E1 0 = S := env_of st.inn hE 0 (by kernel_rfl)
 have a1 : E1 1 = S' := env_of st.inn hE 1 (by kernel_rfl)
 have a5 : E1 5 = .int .i64 ((0 : Nat) : Int) := env_of st.inn hE 5 (by kernel_rfl)
 have g1 : Grew H H1 := (gk st)
 clear st hE vs ls
 refine res_scan (by kernel_rfl) [(0, S), (1, S')] 5 ms.length (fun _ => True) (.cons a0 (.cons a1 .nil)) a5 g1 trivial ?_
 intro i hi _ E2 H2 hs h5 hg2
 have b0 := hs.head
 have b1 := hs.tail.head
 have hso := slOne hS
 have hso' := slOne hS'
 rcases Nat.lt_or_ge i ms.length with hlt | hge
 ·
  cases hS with
  | nil h => rw [h] at hlt; simp at hlt
  | @sl ls0 n cap rest wr2 hgS hn hc =>
   cases hS' with
   | nil h => rw [h] at hlt; simp at hlt
   | @sl ls1 n' cap' rest' wr2' hgS' hn' hc' =>
    have hgS2 := hg2.at hgS
    have hgS2' := hg2.at hgS'
    subst hn
    subst hn'
    obtain ⟨v0, v1, v2, v3, v4, v5, v6, v7, v8, hm, o3, o4, o5, o6⟩ := partsMark (hr.get hlt)
    have heq := k_eqMark ms[i] (hr.get hlt)
    refine run_mn (φ := φ0) (pm := pmR 2 [(.len (.nd 0 .one), .nd 1 (.int .i64)), (.ia 9 (.nd 0 .one) (.nd 2 (.int .i64)), .ptr 0 0), (.ia 9 (.nd 3 .one) (.nd 2 (.int .i64)), .ptr 1 0), (.call 64 [.agg (nds 4 KM), .agg (nds 4 KM)], .lit (.bool true))] 0) 20
     (nk := [(.atom 0, .one), (.atom 1, .int .i64), (.atom 2, .int .i64), (.atom 3, .one)] ++ ([(.atom 4, .int .i32), (.atom 5, .int .i32), (.atom 6, .int .i32), (.atom 7, .flt .f32), (.atom 8, .flt .f32), (.atom 9, .flt .f32), (.atom 10, .flt .f32), (.atom 11, .int .i64), (.atom 12, .int .i64)] ++ [(.bin .lss (.nd 2 (.int .i64)) (.nd 1 (.int .i64)), .bool)])) (fs := [(13, true)])
     (xs := [.slice ls0 0 ms.length cap 9, .int .i64 (ms.length : Int), .int .i64 (i : Int), .slice ls1 0 ms.length cap' 9, .int .i32 v0, .int .i32 v1, .int .i32 v2, .flt .f32 v3, .flt .f32 v4, .flt .f32 v5, .flt .f32 v6, .int .i64 v7, .int .i64 v8, .bool true]) (ws := [⟨ls0, i * 9, nds 4 KM, false⟩, ⟨ls1, i * 9, nds 4 KM, false⟩]) (env := [(0, .nd 0 .one), (1, .nd 3 .one), (5, .nd 2 (.int .i64))]) ?_ ?_ tb_ok ap_ok ?_
    ·
     refine midN_in ?_ ?_ _ ?_ ?_ ?_
     ·
      refine .cons rfl rfl (.cons rfl ⟨_, rfl⟩ (.cons rfl ⟨_, rfl⟩ (.cons rfl rfl ?_)))
      (repeat (first | exact .nil | refine .cons rfl ⟨_, rfl⟩ ?_ | refine .cons rfl ⟨_, rfl, by assumption⟩ ?_ | refine .cons rfl (by assumption) ?_))
      refine .cons ⟨_, _, dNd rfl ⟨_, rfl⟩, dNd rfl ⟨_, rfl⟩, ?_⟩ ⟨_, rfl⟩ .nil
      show some (AV.bool (decide ((i : Int) < (ms.length : Int)))) = _
      rw [decide_eq_true (by omega)]
     ·
      exact .cons rfl .nil
     ·
      exact .cons (win_elem hr hgS2 hlt rfl (by rw [hm]; exact (by repeat (first | exact dlNil | refine dlCons (dNd rfl ⟨_, rfl⟩) ?_ | refine dlCons (dNd rfl ⟨_, rfl, by assumption⟩) ?_ | refine dlCons (dNd rfl (by assumption)) ?_)))) (.cons (win_elem hr hgS2' hlt rfl (by rw [hm]; exact (by repeat (first | exact dlNil | refine dlCons (dNd rfl ⟨_, rfl⟩) ?_ | refine dlCons (dNd rfl ⟨_, rfl, by assumption⟩) ?_ | refine dlCons (dNd rfl (by assumption)) ?_)))) .nil)
     ·
      exact ⟨fun v hv h => (by simp at hv; subst hv; simp at h), ⟨fun v hv => (by cases hv), trivial⟩⟩
     ·
      exact .cons (rule_len (o := 0) (dNd rfl rfl) (dNd rfl ⟨_, rfl⟩)) (.cons (rule_ia (k := i) (dNd rfl rfl) (dNd rfl ⟨_, rfl⟩) (by omega) rfl) (.cons (rule_ia (k := i) (dNd rfl rfl) (dNd rfl ⟨_, rfl⟩) (by omega) rfl)
       (.cons (rule_call (args := [.agg ms[i], .agg ms[i]]) (dlCons (dAgg (by rw [hm]; exact (by repeat (first | exact dlNil | refine dlCons (dNd rfl ⟨_, rfl⟩) ?_ | refine dlCons (dNd rfl ⟨_, rfl, by assumption⟩) ?_ | refine dlCons (dNd rfl (by assumption)) ?_)))) (dlCons (dAgg (by rw [hm]; exact (by repeat (first | exact dlNil | refine dlCons (dNd rfl ⟨_, rfl⟩) ?_ | refine dlCons (dNd rfl ⟨_, rfl, by assumption⟩) ?_ | refine dlCons (dNd rfl (by assumption)) ?_)))) dlNil)) (dLit rfl) (fun H3 _ => heq H3)) .nil)))
    ·
     exact envNd b0 rfl rfl (envNd b1 rfl rfl (envNd h5 rfl ⟨_, rfl⟩ envNil))
    ·
     refine all1 (by kernel_rfl) ?_
     intro vs ls H4 E4 st hE
     exact res_next (sl := [(0, .slice ls0 0 ms.length cap 9), (1, .slice ls1 0 ms.length cap' 9)]) (ti := 5) (i := i) (Inv := fun _ => True) (by kernel_rfl) st.inn hE hlt (by kernel_rfl) (w := IntKind.i64.wrap ((i : Int) + 1)) (by kernel_rfl) (wrap64 (by omega)) (hg2.trans (gk st)) trivial
 ·
  obtain rfl : i = ms.length := by omega
  refine run_mn (φ := φ0) (pm := pmR 0 [(.len (.nd 0 .one), .nd 1 (.int .i64))] 0) 20 (nk := [(.atom 0, .one), (.atom 1, .int .i64), (.atom 2, .int .i64), (.bin .lss (.nd 2 (.int .i64)) (.nd 1 (.int .i64)), .bool)]) (fs := [(3, false)])
   (xs := [S, .int .i64 (ms.length : Int), .int .i64 (ms.length : Int), .bool false]) (ws := []) (env := [(0, .nd 0 .one), (5, .nd 2 (.int .i64))]) ?_ ?_ tb_ok ap_ok ?_
  ·
   refine midN_in ?_ ?_ _ .nil trivial ?_
   ·
    refine .cons rfl hso (.cons rfl ⟨_, rfl⟩ (.cons rfl ⟨_, rfl⟩ (.cons ⟨_, _, dNd rfl ⟨_, rfl⟩, dNd rfl ⟨_, rfl⟩, ?_⟩ ⟨_, rfl⟩ .nil)))
    show some (AV.bool (decide ((ms.length : Int) < (ms.length : Int)))) = _
    rw [decide_eq_false (by omega)]
   ·
    exact .cons rfl .nil
   ·
    exact .cons ⟨_, _, dNd rfl hso, dNd rfl ⟨_, rfl⟩, slLen hS⟩ .nil
  ·
   exact envNd b0 rfl hso (envNd h5 rfl ⟨_, rfl⟩ envNil)
  ·
   refine all1 (by kernel_rfl) ?_
   intro vs ls H4 E4 st hE
   have g5 : Grew H2 H4 := (gk st)
   clear st hE vs ls
   refine res_exit (id := 0) (by kernel_rfl) ?_
   refine run_mn (φ := φ0) (pm := pmR 0 [] 0) 20 (nk := []) (fs := []) (xs := []) (ws := []) (env := []) (midN_in .nil .nil _ .nil trivial .nil) envNil tb_ok ap_ok ?_
   refine all1 (by kernel_rfl) ?_
   intro vs ls H5 E5 st hE
   exact res_ex (by kernel_rfl) (end_flat st.inn hE (.inr rfl) (a := .bool true) (by kernel_rfl) ((hg2.trans g5).trans (gk st)) rfl ⟨rfl, rfl⟩)
end Go.Proofs.Ytacligocjfhckaa
