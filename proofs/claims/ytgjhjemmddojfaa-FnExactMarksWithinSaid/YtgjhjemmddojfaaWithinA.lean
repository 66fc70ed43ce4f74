/- Contracts: how far marks are; marks that are too far, left out. -/
import Derived.Test.YtgjhjemmddojfaaClone
import Derived.Test.YtgjhjemmddojfaaSxE
set_option linter.unusedVariables false
set_option linter.unusedSimpArgs false
namespace Go.Proofs.Ytgjhjemmddojfaa
open Go.Ab
set_option maxRecDepth 100000
set_option maxHeartbeats 1000000
attribute [local irreducible] Res
def φ2 : Nat → List AV → AV := fun g vs => if g = 2 then (match vs with
  | [.flt .f64 x] => .flt .f64 (fSqrt x)
  | _ => .undef) else .undef
theorem k_sqrt (H : AHeap) (x : Option Nat) : APure Try.prog 124 [.flt .f64 x] H (.flt .f64 (fSqrt x)) := x_sqrt Try.func124 (by kernel_rfl) (by kernel_rfl) (by kernel_rfl) (by kernel_rfl) x
def ap2 : List (Nat × Nat × List Kd × Kd) := [(96, 0, [.flt .f32], .bits), (124, 2, [.f64n], .f64n)]
theorem ap2_ok : ApOk Try.prog φ2 ap2 := .bits (fun x H _ => k_bits32 H x) (.app (fun vs H h => by
  cases h with | cons h1 h2 =>
  cases h2
  obtain ⟨x, rfl, hx⟩ := h1
  exact ⟨k_sqrt H x, sqrt_n ⟨x, rfl, hx⟩⟩) .nil)
def KV : List Kd := [.flt .f32, .flt .f32, .flt .f32]
theorem e_away (m v : List AV) (h : KdsL KM m ∧ KdsL KV v) : ∃ r : Option Nat, fOk .f32 r ∧ (∀ H, APure Try.prog 88 [.agg m, .agg v] H (.flt .f32 r)) ∧ ∀ (H : AHeap) (l off : Nat) (pre post : List AV) (wr : Bool), H.get l = some (.row (pre ++ (m ++ post)) wr) → pre.length = off → APure Try.prog 84 [.ptr l off, .agg v] H (.flt .f32 r) := by
  obtain ⟨r, h1, _, h2, h3⟩ := pair_ptr1v (φ := φ2) 20 (sh := .k (.flt .f32)) (f := 88) (g := 84) tb_ok ap2_ok h.1 h.2 (by decide) (by decide) (by kernel_rfl)
  cases h1 with
  | k h1 =>
    obtain ⟨x, rfl, hx⟩ := h1
    exact ⟨x, hx, h2, h3⟩
open Classical in
noncomputable def awayF (v m : List AV) : Option Nat := if h : KdsL KM m ∧ KdsL KV v then Classical.choose (e_away m v h) else none
theorem awayF_ok (v m : List AV) : fOk .f32 (awayF v m) := by
  unfold awayF
  split
  · rename_i h; exact (Classical.choose_spec (e_away m v h)).1
  · intro b hb; cases hb
theorem k_far (m v : List AV) (h : KdsL KM m) (hv : KdsL KV v) (H : AHeap) : APure Try.prog 88 [.agg m, .agg v] H (.flt .f32 (awayF v m)) := by
  unfold awayF; rw [dif_pos ⟨h, hv⟩]; exact (Classical.choose_spec (e_away m v ⟨h, hv⟩)).2.1 H
theorem k_l05Away (m v : List AV) (h : KdsL KM m) (hv : KdsL KV v) {H : AHeap} {l off : Nat} {pre post : List AV} {wr : Bool} (hg : H.get l = some (.row (pre ++ (m ++ post)) wr)) (hp : pre.length = off) : APure Try.prog 84 [.ptr l off, .agg v] H (.flt .f32 (awayF v m)) := by
  unfold awayF; rw [dif_pos ⟨h, hv⟩]; exact (Classical.choose_spec (e_away m v ⟨h, hv⟩)).2.2 H l off pre post wr hg hp
theorem e_finV (m : List AV) (h : KdsL KV m) : ∃ b : Bool, ∀ H, APure Try.prog 62 [.agg m] H (.bool b) ∧ APure Try.prog 83 [.agg m] H (.bool b) := by
  obtain ⟨b, h2⟩ := pair_flatB (φ := φ0) (pm := pm) 20 (f := 62) (g := 83) rfl rfl tb_ok ap_ok (gk := [(true, KV)]) (gv := [(true, m)]) (.cons h .nil) (by decide) (by kernel_rfl)
  exact ⟨b, h2⟩
open Classical in
noncomputable def finV (m : List AV) : Bool := if h : KdsL KV m then Classical.choose (e_finV m h) else false
theorem k_IsFiniteVec (m : List AV) (h : KdsL KV m) (H : AHeap) : APure Try.prog 62 [.agg m] H (.bool (finV m)) := by
  unfold finV; rw [dif_pos h]; exact (Classical.choose_spec (e_finV m h) H).1
theorem k_l01Vec (m : List AV) (h : KdsL KV m) (H : AHeap) : APure Try.prog 83 [.agg m] H (.bool (finV m)) := by
  unfold finV; rw [dif_pos h]; exact (Classical.choose_spec (e_finV m h) H).2
noncomputable def farB (v : List AV) (r : Option Nat) (m : List AV) : Bool := !(ford .f32 (awayF v m) r == some .lt || ford .f32 (awayF v m) r == some .eq)
theorem k_farFn (v0 : Int) (v1 : Int) (v2 : Int) (v3 : Option Nat) (v4 : Option Nat) (v5 : Option Nat) (v6 : Option Nat) (v7 : Int) (v8 : Int) (o3 : fOk .f32 v3) (o4 : fOk .f32 v4) (o5 : fOk .f32 v5) (o6 : fOk .f32 v6) (p0 p1 p2 : Option Nat) (q0 : fOk .f32 p0) (q1 : fOk .f32 p1) (q2 : fOk .f32 p2) (rad : Option Nat) (hrad : fOk .f32 rad) (H : AHeap) (c : Nat) (hg : H.get c = some (.row [.flt .f32 p0, .flt .f32 p1, .flt .f32 p2] true)) (d1 : Nat) (hg1 : H.get d1 = some (.row [.flt .f32 rad] true)) : APure Try.prog 87 [.agg [.int .i32 v0, .int .i32 v1, .int .i32 v2, .flt .f32 v3, .flt .f32 v4, .flt .f32 v5, .flt .f32 v6, .int .i64 v7, .int .i64 v8], .ptr c 0, .ptr d1 0] H (.bool (farB [.flt .f32 p0, .flt .f32 p1, .flt .f32 p2] rad [.int .i32 v0, .int .i32 v1, .int .i32 v2, .flt .f32 v3, .flt .f32 v4, .flt .f32 v5, .flt .f32 v6, .int .i64 v7, .int .i64 v8])) := by
  refine res_start h_impl_MarksWithin_1 (by simp) ?_
  refine run_mn (φ := φ0) (pm := pmR 2 [(.call 88 [.agg [.nd 0 (.int .i32), .nd 1 (.int .i32), .nd 2 (.int .i32), .nd 3 (.flt .f32), .nd 4 (.flt .f32), .nd 5 (.flt .f32), .nd 6 (.flt .f32), .nd 7 (.int .i64), .nd 8 (.int .i64)], .agg [.nd 9 (.flt .f32), .nd 10 (.flt .f32), .nd 11 (.flt .f32)]], .nd 13 (.flt .f32))] 0) 20 (nk := [(.atom 0, .int .i32), (.atom 1, .int .i32), (.atom 2, .int .i32), (.atom 3, .flt .f32), (.atom 4, .flt .f32), (.atom 5, .flt .f32), (.atom 6, .flt .f32), (.atom 7, .int .i64), (.atom 8, .int .i64), (.atom 9, .flt .f32), (.atom 10, .flt .f32), (.atom 11, .flt .f32), (.atom 12, .flt .f32), (.atom 13, .flt .f32)]) (fs := []) (xs := [.int .i32 v0, .int .i32 v1, .int .i32 v2, .flt .f32 v3, .flt .f32 v4, .flt .f32 v5, .flt .f32 v6, .int .i64 v7, .int .i64 v8, .flt .f32 p0, .flt .f32 p1, .flt .f32 p2, .flt .f32 rad, .flt .f32 (awayF [.flt .f32 p0, .flt .f32 p1, .flt .f32 p2] [.int .i32 v0, .int .i32 v1, .int .i32 v2, .flt .f32 v3, .flt .f32 v4, .flt .f32 v5, .flt .f32 v6, .int .i64 v7, .int .i64 v8])]) (ws := [⟨c, 0, [.nd 9 (.flt .f32), .nd 10 (.flt .f32), .nd 11 (.flt .f32)], false⟩, ⟨d1, 0, [.nd 12 (.flt .f32)], false⟩]) (env := [(0, .agg [.nd 0 (.int .i32), .nd 1 (.int .i32), .nd 2 (.int .i32), .nd 3 (.flt .f32), .nd 4 (.flt .f32), .nd 5 (.flt .f32), .nd 6 (.flt .f32), .nd 7 (.int .i64), .nd 8 (.int .i64)]), (1, .ptr 0 0), (2, .ptr 1 0)]) ?_ ?_ tb_ok ap_ok ?_
  · refine midN_in ?_ .nil _ ?_ ?_ ?_
    · exact (.cons rfl ⟨_, rfl⟩ (.cons rfl ⟨_, rfl⟩ (.cons rfl ⟨_, rfl⟩ (.cons rfl ⟨_, rfl, o3⟩ (.cons rfl ⟨_, rfl, o4⟩ (.cons rfl ⟨_, rfl, o5⟩ (.cons rfl ⟨_, rfl, o6⟩ (.cons rfl ⟨_, rfl⟩ (.cons rfl ⟨_, rfl⟩ (.cons rfl ⟨_, rfl, q0⟩ (.cons rfl ⟨_, rfl, q1⟩ (.cons rfl ⟨_, rfl, q2⟩ (.cons rfl ⟨_, rfl, hrad⟩ (.cons rfl ⟨_, rfl, awayF_ok _ _⟩ .nil))))))))))))))
    · exact (.cons (win_row hg (dlCons (dNd rfl ⟨_, rfl, q0⟩) (dlCons (dNd rfl ⟨_, rfl, q1⟩) (dlCons (dNd rfl ⟨_, rfl, q2⟩) dlNil)))) (.cons (win_row hg1 (dlCons (dNd rfl ⟨_, rfl, hrad⟩) dlNil)) .nil))
    · exact sepOk_ro rfl
    · exact (.cons (rule_call (args := [.agg [.int .i32 v0, .int .i32 v1, .int .i32 v2, .flt .f32 v3, .flt .f32 v4, .flt .f32 v5, .flt .f32 v6, .int .i64 v7, .int .i64 v8], .agg [.flt .f32 p0, .flt .f32 p1, .flt .f32 p2]]) (dlCons (dAgg (dlCons (dNd rfl ⟨_, rfl⟩) (dlCons (dNd rfl ⟨_, rfl⟩) (dlCons (dNd rfl ⟨_, rfl⟩) (dlCons (dNd rfl ⟨_, rfl, o3⟩) (dlCons (dNd rfl ⟨_, rfl, o4⟩) (dlCons (dNd rfl ⟨_, rfl, o5⟩) (dlCons (dNd rfl ⟨_, rfl, o6⟩) (dlCons (dNd rfl ⟨_, rfl⟩) (dlCons (dNd rfl ⟨_, rfl⟩) dlNil)))))))))) (dlCons (dAgg (dlCons (dNd rfl ⟨_, rfl, q0⟩) (dlCons (dNd rfl ⟨_, rfl, q1⟩) (dlCons (dNd rfl ⟨_, rfl, q2⟩) dlNil)))) dlNil)) (dNd rfl ⟨_, rfl, awayF_ok _ _⟩) (fun H9 hk => k_far [.int .i32 v0, .int .i32 v1, .int .i32 v2, .flt .f32 v3, .flt .f32 v4, .flt .f32 v5, .flt .f32 v6, .int .i64 v7, .int .i64 v8] [.flt .f32 p0, .flt .f32 p1, .flt .f32 p2] (.cons ⟨_, rfl⟩ (.cons ⟨_, rfl⟩ (.cons ⟨_, rfl⟩ (.cons ⟨_, rfl, o3⟩ (.cons ⟨_, rfl, o4⟩ (.cons ⟨_, rfl, o5⟩ (.cons ⟨_, rfl, o6⟩ (.cons ⟨_, rfl⟩ (.cons ⟨_, rfl⟩ .nil))))))))) (.cons ⟨_, rfl, q0⟩ (.cons ⟨_, rfl, q1⟩ (.cons ⟨_, rfl, q2⟩ .nil))) H9)) .nil)
  · exact (envEq rfl (dAgg (dlCons (dNd rfl ⟨_, rfl⟩) (dlCons (dNd rfl ⟨_, rfl⟩) (dlCons (dNd rfl ⟨_, rfl⟩) (dlCons (dNd rfl ⟨_, rfl, o3⟩) (dlCons (dNd rfl ⟨_, rfl, o4⟩) (dlCons (dNd rfl ⟨_, rfl, o5⟩) (dlCons (dNd rfl ⟨_, rfl, o6⟩) (dlCons (dNd rfl ⟨_, rfl⟩) (dlCons (dNd rfl ⟨_, rfl⟩) dlNil)))))))))) (envEq rfl (dPtr (l := c) (o := 0) rfl) (envEq rfl (dPtr (l := d1) (o := 0) rfl) envNil)))
  refine all1 (by kernel_rfl) ?_
  intro vs ls H1 E1 st hE
  refine res_ex (by kernel_rfl) (end_flat st.inn hE (.inr rfl) (a := .bool (!(ford .f32 (awayF [.flt .f32 p0, .flt .f32 p1, .flt .f32 p2] [.int .i32 v0, .int .i32 v1, .int .i32 v2, .flt .f32 v3, .flt .f32 v4, .flt .f32 v5, .flt .f32 v6, .int .i64 v7, .int .i64 v8]) rad == some .lt || ford .f32 (awayF [.flt .f32 p0, .flt .f32 p1, .flt .f32 p2] [.int .i32 v0, .int .i32 v1, .int .i32 v2, .flt .f32 v3, .flt .f32 v4, .flt .f32 v5, .flt .f32 v6, .int .i64 v7, .int .i64 v8]) rad == some .eq))) (by kernel_rfl) (Grew.trans (Grew.refl _) (st.kept.grew (Nat.le_of_ble_eq_true (by kernel_rfl)))) rfl ⟨?_, rfl⟩)
  rfl
theorem k_DeleteFar_index (H : AHeap) (ms : List (List AV)) (hr : Recs KM ms) (S : AV) (hS : SlL H 9 ms S) (mxms : ms.length ≤ 1048576) (p0 p1 p2 : Option Nat) (q0 : fOk .f32 p0) (q1 : fOk .f32 p1) (q2 : fOk .f32 p2) (rad : Option Nat) (hrad : fOk .f32 rad) (c : Nat) (hg : H.get c = some (.row [.flt .f32 p0, .flt .f32 p1, .flt .f32 p2] true)) (d1 : Nat) (hg1 : H.get d1 = some (.row [.flt .f32 rad] true)) : APure Try.prog 108 [S, .func 87 [] [.ptr c 0, .ptr d1 0]] H (.int .i64 (idxF (fun i => farB [.flt .f32 p0, .flt .f32 p1, .flt .f32 p2] rad (ms.getD i [])) ms.length)) := by
  refine res_start h_slices_IndexFunc_impl_Mark_impl_Mark (by simp) ?_
  refine run_mn (φ := φ0) (pm := pmR 2 [(.len (.nd 0 .one), .nd 5 (.int .i64))] 0) 20 (nk := [(.atom 0, .one), (.atom 1, .flt .f32), (.atom 2, .flt .f32), (.atom 3, .flt .f32), (.atom 4, .flt .f32), (.atom 5, .int .i64)]) (fs := []) (xs := [S, .flt .f32 p0, .flt .f32 p1, .flt .f32 p2, .flt .f32 rad, .int .i64 (ms.length : Int)]) (ws := [⟨c, 0, [.nd 1 (.flt .f32), .nd 2 (.flt .f32), .nd 3 (.flt .f32)], false⟩, ⟨d1, 0, [.nd 4 (.flt .f32)], false⟩]) (env := [(0, .nd 0 .one), (1, .fn 87 [] [.ptr 0 0, .ptr 1 0])]) ?_ ?_ tb_ok ap_ok ?_
  · refine midN_in ?_ .nil _ ?_ ?_ ?_
    · exact (.cons rfl (slOne hS) (.cons rfl ⟨_, rfl, q0⟩ (.cons rfl ⟨_, rfl, q1⟩ (.cons rfl ⟨_, rfl, q2⟩ (.cons rfl ⟨_, rfl, hrad⟩ (.cons rfl ⟨_, rfl⟩ .nil))))))
    · exact (.cons (win_row hg (dlCons (dNd rfl ⟨_, rfl, q0⟩) (dlCons (dNd rfl ⟨_, rfl, q1⟩) (dlCons (dNd rfl ⟨_, rfl, q2⟩) dlNil)))) (.cons (win_row hg1 (dlCons (dNd rfl ⟨_, rfl, hrad⟩) dlNil)) .nil))
    · exact sepOk_ro rfl
    · exact (.cons (⟨_, _, (dNd rfl (slOne hS)), (dNd rfl ⟨_, rfl⟩), slLen hS⟩) .nil)
  · exact (envEq rfl (dNd rfl (slOne hS)) (envEq rfl (dFn' dlNil (dlCons (dPtr (l := c) (o := 0) rfl) (dlCons (dPtr (l := d1) (o := 0) rfl) dlNil))) envNil))
  refine all1 (by kernel_rfl) ?_
  intro vs ls H1 E1 st hE
  have b2 : E1 8 = .int .i64 0 := env_of st.inn hE 8 (by kernel_rfl)
  have b3 : E1 7 = .int .i64 (ms.length : Int) := env_of st.inn hE 7 (by kernel_rfl)
  have b4 : E1 1 = .func 87 [] [.ptr c 0, .ptr d1 0] := env_of st.inn hE 1 (by kernel_rfl)
  have b5 : E1 0 = S := env_of st.inn hE 0 (by kernel_rfl)
  have g6 : Grew H H1 := (st.kept.grew (Nat.le_of_ble_eq_true (by kernel_rfl)))
  have g7 : Grew H H1 := Grew.trans (Grew.refl _) g6
  have r8 := g6.at hg
  have r9 := g6.at hg1
  clear st hE vs ls
  refine res_scan (by kernel_rfl) [(7, .int .i64 (ms.length : Int)), (1, .func 87 [] [.ptr c 0, .ptr d1 0]), (0, S)] 8 ms.length (fun i => ∀ j, j < i → farB [.flt .f32 p0, .flt .f32 p1, .flt .f32 p2] rad (ms.getD j []) = false) (.cons b3 (.cons b4 (.cons b5 .nil))) b2 (Grew.refl _) upTo0 ?_
  intro i10 hli10 hIi10 Ei10 Hi10 hsi10 hci10 hgi10
  have g11 : Grew H Hi10 := Grew.trans g7 hgi10
  have r12 := hgi10.at r8
  have r13 := hgi10.at r9
  refine run_mn (φ := φ0) (pm := pmR 2 [] 0) 20 (nk := [(.atom 0, .one), (.atom 1, .flt .f32), (.atom 2, .flt .f32), (.atom 3, .flt .f32), (.atom 4, .flt .f32), (.atom 5, .int .i64), (.atom 6, .int .i64)]) (fs := []) (xs := [S, .flt .f32 p0, .flt .f32 p1, .flt .f32 p2, .flt .f32 rad, .int .i64 (ms.length : Int), .int .i64 (i10 : Int)]) (ws := [⟨c, 0, [.nd 1 (.flt .f32), .nd 2 (.flt .f32), .nd 3 (.flt .f32)], false⟩, ⟨d1, 0, [.nd 4 (.flt .f32)], false⟩]) (env := [(7, .nd 5 (.int .i64)), (1, .fn 87 [] [.ptr 0 0, .ptr 1 0]), (0, .nd 0 .one), (8, .nd 6 (.int .i64))]) ?_ ?_ tb_ok ap_ok ?_
  · refine midN_in ?_ .nil _ ?_ ?_ ?_
    · exact (.cons rfl (slOne hS) (.cons rfl ⟨_, rfl, q0⟩ (.cons rfl ⟨_, rfl, q1⟩ (.cons rfl ⟨_, rfl, q2⟩ (.cons rfl ⟨_, rfl, hrad⟩ (.cons rfl ⟨_, rfl⟩ (.cons rfl ⟨_, rfl⟩ .nil)))))))
    · exact (.cons (win_row r12 (dlCons (dNd rfl ⟨_, rfl, q0⟩) (dlCons (dNd rfl ⟨_, rfl, q1⟩) (dlCons (dNd rfl ⟨_, rfl, q2⟩) dlNil)))) (.cons (win_row r13 (dlCons (dNd rfl ⟨_, rfl, hrad⟩) dlNil)) .nil))
    · exact sepOk_ro rfl
    · exact .nil
  · exact (envEq (hsi10.at 0 rfl) (dNd rfl ⟨_, rfl⟩) (envEq (hsi10.at 1 rfl) (dFn' dlNil (dlCons (dPtr (l := c) (o := 0) rfl) (dlCons (dPtr (l := d1) (o := 0) rfl) dlNil))) (envEq (hsi10.at 2 rfl) (dNd rfl (slOne hS)) (envEq hci10 (dNd rfl ⟨_, rfl⟩) envNil))))
  refine all2 (by kernel_rfl) ?_ ?_
  ·
    intro vs ls H14 E14 st hE
    have f15 : (i10 : Int) < (ms.length : Int) := of_decide_eq_true (bfact (x := decide ((i10 : Int) < (ms.length : Int))) st.inn 0 (by kernel_rfl))
    have b16 : E14 12 = S := env_of st.inn hE 12 (by kernel_rfl)
    have b17 : E14 13 = .int .i64 (i10 : Int) := env_of st.inn hE 13 (by kernel_rfl)
    have b18 : E14 11 = .func 87 [] [.ptr c 0, .ptr d1 0] := env_of st.inn hE 11 (by kernel_rfl)
    have b19 : E14 5 = .int .i64 (i10 : Int) := env_of st.inn hE 5 (by kernel_rfl)
    have b20 : E14 8 = .int .i64 (i10 : Int) := env_of st.inn hE 8 (by kernel_rfl)
    have b21 : E14 7 = .int .i64 (ms.length : Int) := env_of st.inn hE 7 (by kernel_rfl)
    have b22 : E14 1 = .func 87 [] [.ptr c 0, .ptr d1 0] := env_of st.inn hE 1 (by kernel_rfl)
    have b23 : E14 0 = S := env_of st.inn hE 0 (by kernel_rfl)
    have g24 : Grew Hi10 H14 := (st.kept.grew (Nat.le_of_ble_eq_true (by kernel_rfl)))
    have g25 : Grew H H14 := Grew.trans g11 g24
    have g26 : Grew H1 H14 := Grew.trans hgi10 g24
    have r27 := g24.at r12
    have r28 := g24.at r13
    clear st hE vs ls
    have hlt29 : i10 < ms.length := by omega
    obtain ⟨lS29, cap29, rest29, wr29, eS29, gB29⟩ := hS.isSl hlt29
    have gS29 := g25.at gB29
    obtain ⟨v29_0, v29_1, v29_2, v29_3, v29_4, v29_5, v29_6, v29_7, v29_8, hm29, ho29_3, ho29_4, ho29_5, ho29_6⟩ := partsMark (hr.get hlt29)
    have he29 : ms.getD i10 [] = [.int .i32 v29_0, .int .i32 v29_1, .int .i32 v29_2, .flt .f32 v29_3, .flt .f32 v29_4, .flt .f32 v29_5, .flt .f32 v29_6, .int .i64 v29_7, .int .i64 v29_8] := by rw [← hm29]; simp [List.getD_eq_getElem?_getD, hlt29]
    refine run_mn (φ := φ0) (pm := pmR 3 [(.ia 9 (.nd 0 .one) (.nd 6 (.int .i64)), .ptr 2 0), (.call 87 [.agg [.nd 7 (.int .i32), .nd 8 (.int .i32), .nd 9 (.int .i32), .nd 10 (.flt .f32), .nd 11 (.flt .f32), .nd 12 (.flt .f32), .nd 13 (.flt .f32), .nd 14 (.int .i64), .nd 15 (.int .i64)], .ptr 0 0, .ptr 1 0], .nd 16 .bool)] 0) 20 (nk := [(.atom 0, .one), (.atom 1, .flt .f32), (.atom 2, .flt .f32), (.atom 3, .flt .f32), (.atom 4, .flt .f32), (.atom 5, .int .i64), (.atom 6, .int .i64), (.atom 7, .int .i32), (.atom 8, .int .i32), (.atom 9, .int .i32), (.atom 10, .flt .f32), (.atom 11, .flt .f32), (.atom 12, .flt .f32), (.atom 13, .flt .f32), (.atom 14, .int .i64), (.atom 15, .int .i64), (.atom 16, .bool)]) (fs := []) (xs := [S, .flt .f32 p0, .flt .f32 p1, .flt .f32 p2, .flt .f32 rad, .int .i64 (ms.length : Int), .int .i64 (i10 : Int), .int .i32 v29_0, .int .i32 v29_1, .int .i32 v29_2, .flt .f32 v29_3, .flt .f32 v29_4, .flt .f32 v29_5, .flt .f32 v29_6, .int .i64 v29_7, .int .i64 v29_8, .bool (farB [.flt .f32 p0, .flt .f32 p1, .flt .f32 p2] rad [.int .i32 v29_0, .int .i32 v29_1, .int .i32 v29_2, .flt .f32 v29_3, .flt .f32 v29_4, .flt .f32 v29_5, .flt .f32 v29_6, .int .i64 v29_7, .int .i64 v29_8])]) (ws := [⟨c, 0, [.nd 1 (.flt .f32), .nd 2 (.flt .f32), .nd 3 (.flt .f32)], false⟩, ⟨d1, 0, [.nd 4 (.flt .f32)], false⟩, ⟨lS29, (i10 * 9), [.nd 7 (.int .i32), .nd 8 (.int .i32), .nd 9 (.int .i32), .nd 10 (.flt .f32), .nd 11 (.flt .f32), .nd 12 (.flt .f32), .nd 13 (.flt .f32), .nd 14 (.int .i64), .nd 15 (.int .i64)], false⟩]) (env := [(12, .nd 0 .one), (13, .nd 6 (.int .i64)), (11, .fn 87 [] [.ptr 0 0, .ptr 1 0]), (5, .nd 6 (.int .i64)), (8, .nd 6 (.int .i64)), (7, .nd 5 (.int .i64)), (1, .fn 87 [] [.ptr 0 0, .ptr 1 0]), (0, .nd 0 .one)]) ?_ ?_ tb_ok ap_ok ?_
    · refine midN_in ?_ .nil _ ?_ ?_ ?_
      · exact (.cons rfl (slOne hS) (.cons rfl ⟨_, rfl, q0⟩ (.cons rfl ⟨_, rfl, q1⟩ (.cons rfl ⟨_, rfl, q2⟩ (.cons rfl ⟨_, rfl, hrad⟩ (.cons rfl ⟨_, rfl⟩ (.cons rfl ⟨_, rfl⟩ (.cons rfl ⟨_, rfl⟩ (.cons rfl ⟨_, rfl⟩ (.cons rfl ⟨_, rfl⟩ (.cons rfl ⟨_, rfl, ho29_3⟩ (.cons rfl ⟨_, rfl, ho29_4⟩ (.cons rfl ⟨_, rfl, ho29_5⟩ (.cons rfl ⟨_, rfl, ho29_6⟩ (.cons rfl ⟨_, rfl⟩ (.cons rfl ⟨_, rfl⟩ (.cons rfl ⟨_, rfl⟩ .nil)))))))))))))))))
      · exact (.cons (win_row r27 (dlCons (dNd rfl ⟨_, rfl, q0⟩) (dlCons (dNd rfl ⟨_, rfl, q1⟩) (dlCons (dNd rfl ⟨_, rfl, q2⟩) dlNil)))) (.cons (win_row r28 (dlCons (dNd rfl ⟨_, rfl, hrad⟩) dlNil)) (.cons (win_elem hr gS29 hlt29 rfl (by rw [hm29]; exact (dlCons (dNd rfl ⟨_, rfl⟩) (dlCons (dNd rfl ⟨_, rfl⟩) (dlCons (dNd rfl ⟨_, rfl⟩) (dlCons (dNd rfl ⟨_, rfl, ho29_3⟩) (dlCons (dNd rfl ⟨_, rfl, ho29_4⟩) (dlCons (dNd rfl ⟨_, rfl, ho29_5⟩) (dlCons (dNd rfl ⟨_, rfl, ho29_6⟩) (dlCons (dNd rfl ⟨_, rfl⟩) (dlCons (dNd rfl ⟨_, rfl⟩) dlNil))))))))))) .nil)))
      · exact sepOk_ro rfl
      · exact (.cons (rule_iaS (k := i10) (dNd rfl (slOne hS)) eS29 (dNd rfl ⟨_, rfl⟩) hlt29 rfl) (.cons (rule_call (args := [.agg [.int .i32 v29_0, .int .i32 v29_1, .int .i32 v29_2, .flt .f32 v29_3, .flt .f32 v29_4, .flt .f32 v29_5, .flt .f32 v29_6, .int .i64 v29_7, .int .i64 v29_8], .ptr c 0, .ptr d1 0]) (dlCons (dAgg (dlCons (dNd rfl ⟨_, rfl⟩) (dlCons (dNd rfl ⟨_, rfl⟩) (dlCons (dNd rfl ⟨_, rfl⟩) (dlCons (dNd rfl ⟨_, rfl, ho29_3⟩) (dlCons (dNd rfl ⟨_, rfl, ho29_4⟩) (dlCons (dNd rfl ⟨_, rfl, ho29_5⟩) (dlCons (dNd rfl ⟨_, rfl, ho29_6⟩) (dlCons (dNd rfl ⟨_, rfl⟩) (dlCons (dNd rfl ⟨_, rfl⟩) dlNil)))))))))) (dlCons (dPtr (l := c) (o := 0) rfl) (dlCons (dPtr (l := d1) (o := 0) rfl) dlNil))) (dNd rfl ⟨_, rfl⟩) (fun H9 hk => k_farFn v29_0 v29_1 v29_2 v29_3 v29_4 v29_5 v29_6 v29_7 v29_8 ho29_3 ho29_4 ho29_5 ho29_6 p0 p1 p2 q0 q1 q2 rad hrad H9 c ((hk.grew (Nat.le_refl _)).at r27) d1 ((hk.grew (Nat.le_refl _)).at r28))) .nil))
    · exact (envEq b16 (dNd rfl (slOne hS)) (envEq b17 (dNd rfl ⟨_, rfl⟩) (envEq b18 (dFn' dlNil (dlCons (dPtr (l := c) (o := 0) rfl) (dlCons (dPtr (l := d1) (o := 0) rfl) dlNil))) (envEq b19 (dNd rfl ⟨_, rfl⟩) (envEq b20 (dNd rfl ⟨_, rfl⟩) (envEq b21 (dNd rfl ⟨_, rfl⟩) (envEq b22 (dFn' dlNil (dlCons (dPtr (l := c) (o := 0) rfl) (dlCons (dPtr (l := d1) (o := 0) rfl) dlNil))) (envEq b23 (dNd rfl (slOne hS)) envNil))))))))
    refine all2 (by kernel_rfl) ?_ ?_
    ·
      intro vs ls H30 E30 st hE
      have f31 : (farB [.flt .f32 p0, .flt .f32 p1, .flt .f32 p2] rad [.int .i32 v29_0, .int .i32 v29_1, .int .i32 v29_2, .flt .f32 v29_3, .flt .f32 v29_4, .flt .f32 v29_5, .flt .f32 v29_6, .int .i64 v29_7, .int .i64 v29_8]) = true := bfact st.inn 0 (by kernel_rfl)
      refine res_ret (by kernel_rfl) (end_flat st.inn hE (.inr rfl) (a := .int .i64 (i10 : Int)) (by kernel_rfl) (Grew.trans g25 (st.kept.grew (Nat.le_of_ble_eq_true (by kernel_rfl)))) rfl ⟨?_, rfl⟩)
      rw [idxF_at hlt29 hIi10 (by show farB [.flt .f32 p0, .flt .f32 p1, .flt .f32 p2] rad _ = true; rw [he29]; exact f31)]
    ·
      intro vs ls H32 E32 st hE
      have f33 : (farB [.flt .f32 p0, .flt .f32 p1, .flt .f32 p2] rad [.int .i32 v29_0, .int .i32 v29_1, .int .i32 v29_2, .flt .f32 v29_3, .flt .f32 v29_4, .flt .f32 v29_5, .flt .f32 v29_6, .int .i64 v29_7, .int .i64 v29_8]) = false := bfact st.inn 0 (by kernel_rfl)
      have hlti10 : i10 < ms.length := by omega
      refine res_next (sl := [(7, .int .i64 (ms.length : Int)), (1, .func 87 [] [.ptr c 0, .ptr d1 0]), (0, S)]) (ti := 8) (i := i10) (Inv := fun i => ∀ j, j < i → farB [.flt .f32 p0, .flt .f32 p1, .flt .f32 p2] rad (ms.getD j []) = false) (by kernel_rfl) st.inn hE hlti10 (by kernel_rfl) (w := (IntKind.wrap .i64 ((i10 : Int) + 1))) (by kernel_rfl) (wrap64 (by omega)) (Grew.trans g26 (st.kept.grew (Nat.le_of_ble_eq_true (by kernel_rfl)))) ?_
      exact upTo hIi10 (by rw [he29]; exact f33)
  ·
    intro vs ls H34 E34 st hE
    have f35 : ¬ ((i10 : Int) < (ms.length : Int)) := of_decide_eq_false (bfact (x := decide ((i10 : Int) < (ms.length : Int))) st.inn 0 (by kernel_rfl))
    have b36 : E34 8 = .int .i64 (i10 : Int) := env_of st.inn hE 8 (by kernel_rfl)
    have b37 : E34 7 = .int .i64 (ms.length : Int) := env_of st.inn hE 7 (by kernel_rfl)
    obtain ⟨w38, hw38⟩ : ∃ z, z = (decide ((i10 : Int) < (ms.length : Int))) := ⟨_, rfl⟩
    have b39 : E34 9 = .bool w38 := by rw [hw38]; exact env_of st.inn hE 9 (by kernel_rfl)
    have b40 : E34 1 = .func 87 [] [.ptr c 0, .ptr d1 0] := env_of st.inn hE 1 (by kernel_rfl)
    have b41 : E34 0 = S := env_of st.inn hE 0 (by kernel_rfl)
    have g42 : Grew Hi10 H34 := (st.kept.grew (Nat.le_of_ble_eq_true (by kernel_rfl)))
    have g43 : Grew H H34 := Grew.trans g11 g42
    have g44 : Grew H1 H34 := Grew.trans hgi10 g42
    have r45 := g42.at r12
    have r46 := g42.at r13
    clear st hE vs ls
    refine res_exit (id := 0) (by kernel_rfl) ?_
    refine run_mn (φ := φ0) (pm := pmR 2 [] 0) 20 (nk := [(.atom 0, .one), (.atom 1, .flt .f32), (.atom 2, .flt .f32), (.atom 3, .flt .f32), (.atom 4, .flt .f32), (.atom 5, .int .i64), (.atom 6, .int .i64), (.atom 7, .bool)]) (fs := []) (xs := [S, .flt .f32 p0, .flt .f32 p1, .flt .f32 p2, .flt .f32 rad, .int .i64 (ms.length : Int), .int .i64 (i10 : Int), .bool w38]) (ws := [⟨c, 0, [.nd 1 (.flt .f32), .nd 2 (.flt .f32), .nd 3 (.flt .f32)], false⟩, ⟨d1, 0, [.nd 4 (.flt .f32)], false⟩]) (env := [(8, .nd 6 (.int .i64)), (7, .nd 5 (.int .i64)), (9, .nd 7 .bool), (1, .fn 87 [] [.ptr 0 0, .ptr 1 0]), (0, .nd 0 .one)]) ?_ ?_ tb_ok ap_ok ?_
    · refine midN_in ?_ .nil _ ?_ ?_ ?_
      · exact (.cons rfl (slOne hS) (.cons rfl ⟨_, rfl, q0⟩ (.cons rfl ⟨_, rfl, q1⟩ (.cons rfl ⟨_, rfl, q2⟩ (.cons rfl ⟨_, rfl, hrad⟩ (.cons rfl ⟨_, rfl⟩ (.cons rfl ⟨_, rfl⟩ (.cons rfl ⟨_, rfl⟩ .nil))))))))
      · exact (.cons (win_row r45 (dlCons (dNd rfl ⟨_, rfl, q0⟩) (dlCons (dNd rfl ⟨_, rfl, q1⟩) (dlCons (dNd rfl ⟨_, rfl, q2⟩) dlNil)))) (.cons (win_row r46 (dlCons (dNd rfl ⟨_, rfl, hrad⟩) dlNil)) .nil))
      · exact sepOk_ro rfl
      · exact .nil
    · exact (envEq b36 (dNd rfl ⟨_, rfl⟩) (envEq b37 (dNd rfl ⟨_, rfl⟩) (envEq b39 (dNd rfl ⟨_, rfl⟩) (envEq b40 (dFn' dlNil (dlCons (dPtr (l := c) (o := 0) rfl) (dlCons (dPtr (l := d1) (o := 0) rfl) dlNil))) (envEq b41 (dNd rfl (slOne hS)) envNil)))))
    refine all1 (by kernel_rfl) ?_
    intro vs ls H47 E47 st hE
    refine res_ex (by kernel_rfl) (end_flat st.inn hE (.inr rfl) (a := .int .i64 (-1)) (by kernel_rfl) (Grew.trans g43 (st.kept.grew (Nat.le_of_ble_eq_true (by kernel_rfl)))) rfl ⟨?_, rfl⟩)
    rw [idxF_none (fun j hj => hIi10 j (by omega))]
theorem k_DeleteFar (H : AHeap) (ms : List (List AV)) (hr : Recs KM ms) (S : AV) (hS : SlF H 9 ms S) (mxms : ms.length ≤ 1048576) (p0 p1 p2 : Option Nat) (q0 : fOk .f32 p0) (q1 : fOk .f32 p1) (q2 : fOk .f32 p2) (rad : Option Nat) (hrad : fOk .f32 rad) (c : Nat) (hg : H.get c = some (.row [.flt .f32 p0, .flt .f32 p1, .flt .f32 p2] true)) (d1 : Nat) (hg1 : H.get d1 = some (.row [.flt .f32 rad] true)) (hap : ApartL S c) (hap1 : ApartL S d1) : ACalls Try.prog 85 [S, .func 87 [] [.ptr c 0, .ptr d1 0]] H fun r H' => OnlyS S H H' ∧ SlW H' 9 (ms.filter fun m => !farB [.flt .f32 p0, .flt .f32 p1, .flt .f32 p2] rad m) r ∧ ∀ l, AtS r l → AtS S l := by
  cases hS with
  | nil h0 =>
    subst h0
    refine res_start h_slices_DeleteFunc_impl_Mark_impl_Mark (by simp) ?_
    refine run_mn (φ := φ0) (pm := pmR 2 [(.call 108 [.lit .nilslice, .fn 87 [] [.ptr 0 0, .ptr 1 0]], .lit (.int .i64 (-1)))] 0) 20 (nk := [(.atom 0, .flt .f32), (.atom 1, .flt .f32), (.atom 2, .flt .f32), (.atom 3, .flt .f32)]) (fs := []) (xs := [.flt .f32 p0, .flt .f32 p1, .flt .f32 p2, .flt .f32 rad]) (ws := [⟨c, 0, [.nd 0 (.flt .f32), .nd 1 (.flt .f32), .nd 2 (.flt .f32)], false⟩, ⟨d1, 0, [.nd 3 (.flt .f32)], false⟩]) (env := [(0, .lit .nilslice), (1, .fn 87 [] [.ptr 0 0, .ptr 1 0])]) ?_ ?_ tb_ok ap_ok ?_
    · refine midN_in ?_ .nil _ ?_ ?_ ?_
      · exact (.cons rfl ⟨_, rfl, q0⟩ (.cons rfl ⟨_, rfl, q1⟩ (.cons rfl ⟨_, rfl, q2⟩ (.cons rfl ⟨_, rfl, hrad⟩ .nil))))
      · exact (.cons (win_row hg (dlCons (dNd rfl ⟨_, rfl, q0⟩) (dlCons (dNd rfl ⟨_, rfl, q1⟩) (dlCons (dNd rfl ⟨_, rfl, q2⟩) dlNil)))) (.cons (win_row hg1 (dlCons (dNd rfl ⟨_, rfl, hrad⟩) dlNil)) .nil))
      · exact sepOk_ro rfl
      · exact (.cons (rule_call (args := [.nilslice, .func 87 [] [.ptr c 0, .ptr d1 0]]) (dlCons (dLit rfl) (dlCons (dFn' dlNil (dlCons (dPtr (l := c) (o := 0) rfl) (dlCons (dPtr (l := d1) (o := 0) rfl) dlNil))) dlNil)) (dLit rfl) (fun H9 hk => k_DeleteFar_index H9 [] .nil .nilslice (.nil rfl) (by decide) p0 p1 p2 q0 q1 q2 rad hrad c ((hk.grew (Nat.le_refl _)).at hg) d1 ((hk.grew (Nat.le_refl _)).at hg1))) .nil)
    · exact (envEq rfl (dLit rfl) (envEq rfl (dFn' dlNil (dlCons (dPtr (l := c) (o := 0) rfl) (dlCons (dPtr (l := d1) (o := 0) rfl) dlNil))) envNil))
    refine all1 (by kernel_rfl) ?_
    intro vs ls H1 E1 st hE
    have g9 : Grew H H1 := (Grew.trans (Grew.refl _) (st.kept.grew (Nat.le_of_ble_eq_true (by kernel_rfl))))
    exact res_ex (by kernel_rfl) (end_same st.inn hE (.inr rfl) (a := .nilslice) (by kernel_rfl) g9.next ⟨.of_grew g9, .nil rfl, fun l hl => hl⟩)
  | @sl l n cap hg0 hn hc =>
    subst hn
    have hSL : SlL H 9 ms (.slice l 0 ms.length cap 9) := .sl (rest := []) (by simpa using hg0) rfl hc
    have hlc : Apart c l := ⟨fun e => hap.ne ⟨_, _, _, _, by rw [e]⟩⟩
    have hlc1 : Apart d1 l := ⟨fun e => hap1.ne ⟨_, _, _, _, by rw [e]⟩⟩
    refine res_start h_slices_DeleteFunc_impl_Mark_impl_Mark (by simp) ?_
    refine run_mn (φ := φ0) (pm := pmR 2 [(.call 108 [.nd 0 .one, .fn 87 [] [.ptr 0 0, .ptr 1 0]], .nd 5 (.int .i64))] 0) 20 (nk := [(.atom 0, .one), (.atom 1, .flt .f32), (.atom 2, .flt .f32), (.atom 3, .flt .f32), (.atom 4, .flt .f32), (.atom 5, .int .i64)]) (fs := []) (xs := [.slice l 0 ms.length cap 9, .flt .f32 p0, .flt .f32 p1, .flt .f32 p2, .flt .f32 rad, .int .i64 (idxF (fun i => farB [.flt .f32 p0, .flt .f32 p1, .flt .f32 p2] rad (ms.getD i [])) ms.length)]) (ws := [⟨c, 0, [.nd 1 (.flt .f32), .nd 2 (.flt .f32), .nd 3 (.flt .f32)], false⟩, ⟨d1, 0, [.nd 4 (.flt .f32)], false⟩]) (env := [(0, .nd 0 .one), (1, .fn 87 [] [.ptr 0 0, .ptr 1 0])]) ?_ ?_ tb_ok ap_ok ?_
    · refine midN_in ?_ .nil _ ?_ ?_ ?_
      · exact (.cons rfl rfl (.cons rfl ⟨_, rfl, q0⟩ (.cons rfl ⟨_, rfl, q1⟩ (.cons rfl ⟨_, rfl, q2⟩ (.cons rfl ⟨_, rfl, hrad⟩ (.cons rfl ⟨_, rfl⟩ .nil))))))
      · exact (.cons (win_row hg (dlCons (dNd rfl ⟨_, rfl, q0⟩) (dlCons (dNd rfl ⟨_, rfl, q1⟩) (dlCons (dNd rfl ⟨_, rfl, q2⟩) dlNil)))) (.cons (win_row hg1 (dlCons (dNd rfl ⟨_, rfl, hrad⟩) dlNil)) .nil))
      · exact sepOk_ro rfl
      · exact (.cons (rule_call (args := [.slice l 0 ms.length cap 9, .func 87 [] [.ptr c 0, .ptr d1 0]]) (dlCons (dNd rfl rfl) (dlCons (dFn' dlNil (dlCons (dPtr (l := c) (o := 0) rfl) (dlCons (dPtr (l := d1) (o := 0) rfl) dlNil))) dlNil)) (dNd rfl ⟨_, rfl⟩) (fun H9 hk => k_DeleteFar_index H9 ms hr _ (hSL.grew (Grew.trans (Grew.refl _) (hk.grew (Nat.le_refl _)))) mxms p0 p1 p2 q0 q1 q2 rad hrad c ((hk.grew (Nat.le_refl _)).at hg) d1 ((hk.grew (Nat.le_refl _)).at hg1))) .nil)
    · exact (envEq rfl (dNd rfl rfl) (envEq rfl (dFn' dlNil (dlCons (dPtr (l := c) (o := 0) rfl) (dlCons (dPtr (l := d1) (o := 0) rfl) dlNil))) envNil))
    refine all2 (by kernel_rfl) ?_ ?_
    ·
      intro vs ls H1 E1 st hE
      have f2 : (idxF (fun i => farB [.flt .f32 p0, .flt .f32 p1, .flt .f32 p2] rad (ms.getD i [])) ms.length) = (-1) := of_decide_eq_true (bfact (x := decide ((idxF (fun i => farB [.flt .f32 p0, .flt .f32 p1, .flt .f32 p2] rad (ms.getD i [])) ms.length) = (-1))) st.inn 0 (by kernel_rfl))
      have g9 : Grew H H1 := (Grew.trans (Grew.refl _) (st.kept.grew (Nat.le_of_ble_eq_true (by kernel_rfl))))
      have hq : ∀ i, i < ms.length → farB [.flt .f32 p0, .flt .f32 p1, .flt .f32 p2] rad (ms.getD i []) = false := idxF_m1 f2
      exact res_ex (by kernel_rfl) (end_same st.inn hE (.inr rfl) (a := .slice l 0 ms.length cap 9) (by kernel_rfl) g9.next ⟨.of_grew g9, by rw [keepTo_all (Q := farB [.flt .f32 p0, .flt .f32 p1, .flt .f32 p2] rad) hq]; exact .sl (rest := []) (by simpa using g9.at hg0) rfl hc, fun l hl => hl⟩)
    ·
      intro vs ls H3 E3 st hE
      have f4 : ¬ ((idxF (fun i => farB [.flt .f32 p0, .flt .f32 p1, .flt .f32 p2] rad (ms.getD i [])) ms.length) = (-1)) := of_decide_eq_false (bfact (x := decide ((idxF (fun i => farB [.flt .f32 p0, .flt .f32 p1, .flt .f32 p2] rad (ms.getD i [])) ms.length) = (-1))) st.inn 0 (by kernel_rfl))
      have b5 : E3 0 = .slice l 0 ms.length cap 9 := env_of st.inn hE 0 (by kernel_rfl)
      have b6 : E3 1 = .func 87 [] [.ptr c 0, .ptr d1 0] := env_of st.inn hE 1 (by kernel_rfl)
      have b7 : E3 5 = .int .i64 (idxF (fun i => farB [.flt .f32 p0, .flt .f32 p1, .flt .f32 p2] rad (ms.getD i [])) ms.length) := env_of st.inn hE 5 (by kernel_rfl)
      obtain ⟨w8, hw8⟩ : ∃ z, z = (IntKind.wrap .i64 ((idxF (fun i => farB [.flt .f32 p0, .flt .f32 p1, .flt .f32 p2] rad (ms.getD i [])) ms.length) + 1)) := ⟨_, rfl⟩
      have b9 : E3 6 = .int .i64 w8 := by rw [hw8]; exact env_of st.inn hE 6 (by kernel_rfl)
      have g10 : Grew H H3 := (st.kept.grew (Nat.le_of_ble_eq_true (by kernel_rfl)))
      have g11 : Grew H H3 := Grew.trans (Grew.refl _) g10
      have r12 := g10.at hg
      have r13 := g10.at hg1
      clear st hE vs ls
      obtain ⟨i0, hi0, hidx, hbef, hat⟩ := idxF_some f4
      have e5 : E3 5 = .int .i64 (i0 : Int) := by rw [← hidx]; exact b7
      have e6 : E3 6 = .int .i64 ((i0 + 1 : Nat) : Int) := by rw [b9, hw8, hidx, wrap64 (by omega)]
      have hkf := keepTo_first (Q := farB [.flt .f32 p0, .flt .f32 p1, .flt .f32 p2] rad) hi0 hbef hat
      have hlen0 : (keepTo (farB [.flt .f32 p0, .flt .f32 p1, .flt .f32 p2] rad) ms (i0 + 1)).length = i0 := by rw [hkf, List.length_take]; omega
      have hfl : (ms.take i0).flatten.length = i0 * 9 := take_flat_len hr.len (Nat.le_of_lt hi0)
      have hm0 : (ms[i0]).length = 9 := hr.len _ (List.getElem_mem hi0)
      refine res_loop (by kernel_rfl) (fun z E H' => ∃ j J, z + j = ms.length ∧ i0 < j ∧ E 0 = .slice l 0 ms.length cap 9 ∧ E 1 = .func 87 [] [.ptr c 0, .ptr d1 0] ∧ E 5 = .int .i64 (((keepTo (farB [.flt .f32 p0, .flt .f32 p1, .flt .f32 p2] rad) ms j).length : Nat) : Int) ∧ E 6 = .int .i64 (j : Int) ∧ Only l H H' ∧ (keepTo (farB [.flt .f32 p0, .flt .f32 p1, .flt .f32 p2] rad) ms j).length < j ∧ J.length + (keepTo (farB [.flt .f32 p0, .flt .f32 p1, .flt .f32 p2] rad) ms j).length * 9 = j * 9 ∧ H'.get l = some (.row ((keepTo (farB [.flt .f32 p0, .flt .f32 p1, .flt .f32 p2] rad) ms j).flatten ++ (J ++ (ms.drop j).flatten)) true)) (ms.length - (i0 + 1))
        ⟨i0 + 1, ms[i0], by omega, by omega, b5, b6, by rw [hlen0]; exact e5, e6, .of_grew g11, by omega, by rw [hlen0, hm0]; omega, by
          rw [hkf, g11.at hg0]
          congr 2
          rw [← List.append_assoc, ← take_flat_succ hi0, ← List.flatten_append, List.take_append_drop]⟩ ?_
      rintro z E0 H0 ⟨j, J, hz, hij, c0, c1, c5, c6, gO, hlt0, hJ, row⟩
      have hcr := gO.at hg hlc
      have hcr1 := gO.at hg1 hlc1
      have hkl := keepTo_le (Q := farB [.flt .f32 p0, .flt .f32 p1, .flt .f32 p2] rad) (ms := ms) (j := j) (by omega)
      have hkr := keepTo_recs (Q := farB [.flt .f32 p0, .flt .f32 p1, .flt .f32 p2] rad) hr j
      obtain ⟨P, hP⟩ : ∃ P, P = keepTo (farB [.flt .f32 p0, .flt .f32 p1, .flt .f32 p2] rad) ms j := ⟨_, rfl⟩
      rw [← hP] at c5 hJ row hkl hkr hlt0
      have hPl : P.flatten.length = P.length * 9 := flat_len' hkr rfl
      rcases Nat.lt_or_ge j ms.length with hlt | hge
      ·
        have hsuc := keepTo_succ (Q := farB [.flt .f32 p0, .flt .f32 p1, .flt .f32 p2] rad) hlt
        rw [← hP] at hsuc
        obtain ⟨v0, v1, v2, v3, v4, v5, v6, v7, v8, hm, o3, o4, o5, o6⟩ := partsMark (hr.get hlt)
        have hd : (ms.drop j).flatten = ms[j] ++ (ms.drop (j + 1)).flatten := by rw [List.drop_eq_getElem_cons hlt, List.flatten_cons]
        have hza : z - 1 < z := by omega
        have hzb : z - 1 + (j + 1) = ms.length := by omega
        have hnj : (j : Int) < (ms.length : Int) := by omega
        have hjw : IntKind.i64.wrap ((j : Int) + 1) = ((j + 1 : Nat) : Int) := wrap64 (by omega)
        have hiw : IntKind.i64.wrap ((P.length : Int) + 1) = ((P.length + 1 : Nat) : Int) := wrap64 (by omega)
        have hin : P.length < ms.length := by omega
        rw [hd, hm] at row
        have rowe : H0.get l = some (.row ((P.flatten ++ J) ++ ([.int .i32 v0, .int .i32 v1, .int .i32 v2, .flt .f32 v3, .flt .f32 v4, .flt .f32 v5, .flt .f32 v6, .int .i64 v7, .int .i64 v8] ++ (ms.drop (j + 1)).flatten)) true) := by rw [row]; simp only [List.append_assoc]
        have hPJ : (P.flatten ++ J).length = j * 9 := by rw [List.length_append]; omega
        rw [hm] at hsuc
        refine run_mn (φ := φ0) (pm := pmR 3 [(.len (.nd 0 .one), .nd 3 (.int .i64)), (.ia 9 (.nd 0 .one) (.nd 2 (.int .i64)), .ptr 2 0), (.ia 9 (.nd 0 .one) (.nd 1 (.int .i64)), .nd 4 .one), (.call 87 [.agg [.nd 5 (.int .i32), .nd 6 (.int .i32), .nd 7 (.int .i32), .nd 8 (.flt .f32), .nd 9 (.flt .f32), .nd 10 (.flt .f32), .nd 11 (.flt .f32), .nd 12 (.int .i64), .nd 13 (.int .i64)], .ptr 0 0, .ptr 1 0], .nd 18 .bool)] 0) 20 (nk := [(.atom 0, .one), (.atom 1, .int .i64), (.atom 2, .int .i64), (.atom 3, .int .i64), (.atom 4, .one), (.atom 5, .int .i32), (.atom 6, .int .i32), (.atom 7, .int .i32), (.atom 8, .flt .f32), (.atom 9, .flt .f32), (.atom 10, .flt .f32), (.atom 11, .flt .f32), (.atom 12, .int .i64), (.atom 13, .int .i64), (.atom 14, .flt .f32), (.atom 15, .flt .f32), (.atom 16, .flt .f32), (.atom 17, .flt .f32), (.atom 18, .bool)]) (fs := []) (xs := [.slice l 0 ms.length cap 9, .int .i64 (P.length : Int), .int .i64 (j : Int), .int .i64 (ms.length : Int), .ptr l (P.length * 9), .int .i32 v0, .int .i32 v1, .int .i32 v2, .flt .f32 v3, .flt .f32 v4, .flt .f32 v5, .flt .f32 v6, .int .i64 v7, .int .i64 v8, .flt .f32 p0, .flt .f32 p1, .flt .f32 p2, .flt .f32 rad, .bool (farB [.flt .f32 p0, .flt .f32 p1, .flt .f32 p2] rad [.int .i32 v0, .int .i32 v1, .int .i32 v2, .flt .f32 v3, .flt .f32 v4, .flt .f32 v5, .flt .f32 v6, .int .i64 v7, .int .i64 v8])]) (ws := [⟨c, 0, [.nd 14 (.flt .f32), .nd 15 (.flt .f32), .nd 16 (.flt .f32)], false⟩, ⟨d1, 0, [.nd 17 (.flt .f32)], false⟩, ⟨l, (j * 9), [.nd 5 (.int .i32), .nd 6 (.int .i32), .nd 7 (.int .i32), .nd 8 (.flt .f32), .nd 9 (.flt .f32), .nd 10 (.flt .f32), .nd 11 (.flt .f32), .nd 12 (.int .i64), .nd 13 (.int .i64)], false⟩]) (env := [(0, .nd 0 .one), (1, .fn 87 [] [.ptr 0 0, .ptr 1 0]), (5, .nd 1 (.int .i64)), (6, .nd 2 (.int .i64))]) ?_ ?_ tb_ok ap_ok ?_
        · refine midN_in ?_ .nil _ ?_ ?_ ?_
          · exact (.cons rfl rfl (.cons rfl ⟨_, rfl⟩ (.cons rfl ⟨_, rfl⟩ (.cons rfl ⟨_, rfl⟩ (.cons rfl rfl (.cons rfl ⟨_, rfl⟩ (.cons rfl ⟨_, rfl⟩ (.cons rfl ⟨_, rfl⟩ (.cons rfl ⟨_, rfl, o3⟩ (.cons rfl ⟨_, rfl, o4⟩ (.cons rfl ⟨_, rfl, o5⟩ (.cons rfl ⟨_, rfl, o6⟩ (.cons rfl ⟨_, rfl⟩ (.cons rfl ⟨_, rfl⟩ (.cons rfl ⟨_, rfl, q0⟩ (.cons rfl ⟨_, rfl, q1⟩ (.cons rfl ⟨_, rfl, q2⟩ (.cons rfl ⟨_, rfl, hrad⟩ (.cons rfl ⟨_, rfl⟩ .nil)))))))))))))))))))
          · exact (.cons (win_row hcr (dlCons (dNd rfl ⟨_, rfl, q0⟩) (dlCons (dNd rfl ⟨_, rfl, q1⟩) (dlCons (dNd rfl ⟨_, rfl, q2⟩) dlNil)))) (.cons (win_row hcr1 (dlCons (dNd rfl ⟨_, rfl, hrad⟩) dlNil)) (.cons (win_mid rowe hPJ (dlCons (dNd rfl ⟨_, rfl⟩) (dlCons (dNd rfl ⟨_, rfl⟩) (dlCons (dNd rfl ⟨_, rfl⟩) (dlCons (dNd rfl ⟨_, rfl, o3⟩) (dlCons (dNd rfl ⟨_, rfl, o4⟩) (dlCons (dNd rfl ⟨_, rfl, o5⟩) (dlCons (dNd rfl ⟨_, rfl, o6⟩) (dlCons (dNd rfl ⟨_, rfl⟩) (dlCons (dNd rfl ⟨_, rfl⟩) dlNil)))))))))) .nil)))
          · exact sepOk_ro rfl
          · exact (.cons (rule_len (dNd rfl rfl) (dNd rfl ⟨_, rfl⟩)) (.cons (rule_ia (k := j) (dNd rfl rfl) (dNd rfl ⟨_, rfl⟩) hlt rfl) (.cons (rule_ia' (k := P.length) (dNd rfl rfl) (dNd rfl ⟨_, rfl⟩) hin (dNd rfl rfl)) (.cons (rule_call (args := [.agg [.int .i32 v0, .int .i32 v1, .int .i32 v2, .flt .f32 v3, .flt .f32 v4, .flt .f32 v5, .flt .f32 v6, .int .i64 v7, .int .i64 v8], .ptr c 0, .ptr d1 0]) (dlCons (dAgg (dlCons (dNd rfl ⟨_, rfl⟩) (dlCons (dNd rfl ⟨_, rfl⟩) (dlCons (dNd rfl ⟨_, rfl⟩) (dlCons (dNd rfl ⟨_, rfl, o3⟩) (dlCons (dNd rfl ⟨_, rfl, o4⟩) (dlCons (dNd rfl ⟨_, rfl, o5⟩) (dlCons (dNd rfl ⟨_, rfl, o6⟩) (dlCons (dNd rfl ⟨_, rfl⟩) (dlCons (dNd rfl ⟨_, rfl⟩) dlNil)))))))))) (dlCons (dPtr (l := c) (o := 0) rfl) (dlCons (dPtr (l := d1) (o := 0) rfl) dlNil))) (dNd rfl ⟨_, rfl⟩) (fun H9 hk => k_farFn v0 v1 v2 v3 v4 v5 v6 v7 v8 o3 o4 o5 o6 p0 p1 p2 q0 q1 q2 rad hrad H9 c ((hk.grew (Nat.le_refl _)).at hcr) d1 ((hk.grew (Nat.le_refl _)).at hcr1))) .nil))))
        · exact (envEq c0 (dNd rfl rfl) (envEq c1 (dFn' dlNil (dlCons (dPtr (l := c) (o := 0) rfl) (dlCons (dPtr (l := d1) (o := 0) rfl) dlNil))) (envEq c5 (dNd rfl ⟨_, rfl⟩) (envEq c6 (dNd rfl ⟨_, rfl⟩) envNil))))
        refine all3 (by kernel_rfl) ?_ ?_ ?_
        ·
          intro vs ls H14 E14 st hE
          have f15 : (farB [.flt .f32 p0, .flt .f32 p1, .flt .f32 p2] rad [.int .i32 v0, .int .i32 v1, .int .i32 v2, .flt .f32 v3, .flt .f32 v4, .flt .f32 v5, .flt .f32 v6, .int .i64 v7, .int .i64 v8]) = false := bfact st.inn 0 (by kernel_rfl)
          have f16 : (j : Int) < (ms.length : Int) := of_decide_eq_true (bfact (x := decide ((j : Int) < (ms.length : Int))) st.inn 1 (by kernel_rfl))
          have b17 : E14 0 = .slice l 0 ms.length cap 9 := env_of st.inn hE 0 (by kernel_rfl)
          have b18 : E14 1 = .func 87 [] [.ptr c 0, .ptr d1 0] := env_of st.inn hE 1 (by kernel_rfl)
          have b19 : E14 5 = .int .i64 (P.length : Int) := env_of st.inn hE 5 (by kernel_rfl)
          have b20 : E14 6 = .int .i64 (j : Int) := env_of st.inn hE 6 (by kernel_rfl)
          have b21 : E14 33 = .ptr l (P.length * 9) := env_of st.inn hE 33 (by kernel_rfl)
          have b22 : E14 32 = .agg [.int .i32 v0, .int .i32 v1, .int .i32 v2, .flt .f32 v3, .flt .f32 v4, .flt .f32 v5, .flt .f32 v6, .int .i64 v7, .int .i64 v8] := env_of st.inn hE 32 (by kernel_rfl)
          have g23 : Grew H0 H14 := (st.kept.grew (Nat.le_of_ble_eq_true (by kernel_rfl)))
          have g24 : Only l H H14 := gO.grew g23
          have r25 := g23.at hcr
          have r26 := g23.at hcr1
          clear st hE vs ls
          rw [f15, if_neg (by decide)] at hsuc
          have row2 := g23.at row
          obtain ⟨J1, J2, hJ12, hJ1⟩ : ∃ J1 J2, J = J1 ++ J2 ∧ J1.length = 9 := ⟨J.take 9, J.drop 9, (List.take_append_drop _ _).symm, by rw [List.length_take]; omega⟩
          rw [hJ12, List.append_assoc J1 J2] at row2
          refine res_store_in (d := none) (n := 9) (x := .tmp 33) (y := .tmp 32) (by kernel_rfl) (b := P.length * 9) (off := 0) (C := J1) (C' := [.int .i32 v0, .int .i32 v1, .int .i32 v2, .flt .f32 v3, .flt .f32 v4, .flt .f32 v5, .flt .f32 v6, .int .i64 v7, .int .i64 v8]) (vs := [.int .i32 v0, .int .i32 v1, .int .i32 v2, .flt .f32 v3, .flt .f32 v4, .flt .f32 v5, .flt .f32 v6, .int .i64 v7, .int .i64 v8]) b21 row2 hPl (by show AV.cells (E14 32) = _; rw [b22]; rfl) rfl (by omega) rfl (by unfold laid; simp [List.drop_eq_nil_of_le (Nat.le_of_eq hJ1)]) ?_
          intro H7 row7 o7
          have gO7 := g24.trans o7
          have hcr7 := gO7.at hg hlc
          have hcr17 := gO7.at hg1 hlc1
          refine run_mn (φ := φ0) (pm := pmR 2 [(.len (.nd 0 .one), .nd 3 (.int .i64))] 0) 20 (nk := [(.atom 0, .one), (.atom 1, .int .i64), (.atom 2, .int .i64), (.atom 3, .int .i64), (.atom 4, .one), (.atom 5, .int .i32), (.atom 6, .int .i32), (.atom 7, .int .i32), (.atom 8, .flt .f32), (.atom 9, .flt .f32), (.atom 10, .flt .f32), (.atom 11, .flt .f32), (.atom 12, .int .i64), (.atom 13, .int .i64), (.atom 14, .flt .f32), (.atom 15, .flt .f32), (.atom 16, .flt .f32), (.atom 17, .flt .f32), (.atom 18, .bool)]) (fs := []) (xs := [.slice l 0 ms.length cap 9, .int .i64 (P.length : Int), .int .i64 (j : Int), .int .i64 (ms.length : Int), .ptr l (P.length * 9), .int .i32 v0, .int .i32 v1, .int .i32 v2, .flt .f32 v3, .flt .f32 v4, .flt .f32 v5, .flt .f32 v6, .int .i64 v7, .int .i64 v8, .flt .f32 p0, .flt .f32 p1, .flt .f32 p2, .flt .f32 rad, .bool (farB [.flt .f32 p0, .flt .f32 p1, .flt .f32 p2] rad [.int .i32 v0, .int .i32 v1, .int .i32 v2, .flt .f32 v3, .flt .f32 v4, .flt .f32 v5, .flt .f32 v6, .int .i64 v7, .int .i64 v8])]) (ws := [⟨c, 0, [.nd 14 (.flt .f32), .nd 15 (.flt .f32), .nd 16 (.flt .f32)], false⟩, ⟨d1, 0, [.nd 17 (.flt .f32)], false⟩]) (env := [(0, .nd 0 .one), (1, .fn 87 [] [.ptr 0 0, .ptr 1 0]), (5, .nd 1 (.int .i64)), (6, .nd 2 (.int .i64))]) ?_ ?_ tb_ok ap_ok ?_
          · refine midN_in ?_ .nil _ ?_ ?_ ?_
            · exact (.cons rfl rfl (.cons rfl ⟨_, rfl⟩ (.cons rfl ⟨_, rfl⟩ (.cons rfl ⟨_, rfl⟩ (.cons rfl rfl (.cons rfl ⟨_, rfl⟩ (.cons rfl ⟨_, rfl⟩ (.cons rfl ⟨_, rfl⟩ (.cons rfl ⟨_, rfl, o3⟩ (.cons rfl ⟨_, rfl, o4⟩ (.cons rfl ⟨_, rfl, o5⟩ (.cons rfl ⟨_, rfl, o6⟩ (.cons rfl ⟨_, rfl⟩ (.cons rfl ⟨_, rfl⟩ (.cons rfl ⟨_, rfl, q0⟩ (.cons rfl ⟨_, rfl, q1⟩ (.cons rfl ⟨_, rfl, q2⟩ (.cons rfl ⟨_, rfl, hrad⟩ (.cons rfl ⟨_, rfl⟩ .nil)))))))))))))))))))
            · exact (.cons (win_row hcr7 (dlCons (dNd rfl ⟨_, rfl, q0⟩) (dlCons (dNd rfl ⟨_, rfl, q1⟩) (dlCons (dNd rfl ⟨_, rfl, q2⟩) dlNil)))) (.cons (win_row hcr17 (dlCons (dNd rfl ⟨_, rfl, hrad⟩) dlNil)) .nil))
            · exact sepOk_ro rfl
            · exact (.cons (rule_len (dNd rfl rfl) (dNd rfl ⟨_, rfl⟩)) .nil)
          · exact (envEq (put_no b17) (dNd rfl rfl) (envEq (put_no b18) (dFn' dlNil (dlCons (dPtr (l := c) (o := 0) rfl) (dlCons (dPtr (l := d1) (o := 0) rfl) dlNil))) (envEq (put_no b19) (dNd rfl ⟨_, rfl⟩) (envEq (put_no b20) (dNd rfl ⟨_, rfl⟩) envNil))))
          refine all1 (by kernel_rfl) ?_
          intro vs ls H9 E9 st hE
          have g9 : Grew H7 H9 := (st.kept.grew (Nat.le_of_ble_eq_true (by kernel_rfl)))
          have z0 : E9 0 = .slice l 0 ms.length cap 9 := env_of st.inn hE 0 (by kernel_rfl)
          have z1 : E9 1 = .func 87 [] [.ptr c 0, .ptr d1 0] := env_of st.inn hE 1 (by kernel_rfl)
          have z5 : E9 5 = .int .i64 (IntKind.wrap .i64 ((P.length : Int) + 1)) := env_of st.inn hE 5 (by kernel_rfl)
          have z6 : E9 6 = .int .i64 (IntKind.wrap .i64 ((j : Int) + 1)) := env_of st.inn hE 6 (by kernel_rfl)
          have hJl : J.length = 9 + J2.length := by rw [hJ12, List.length_append, hJ1]
          have hsl : (P ++ [([.int .i32 v0, .int .i32 v1, .int .i32 v2, .flt .f32 v3, .flt .f32 v4, .flt .f32 v5, .flt .f32 v6, .int .i64 v7, .int .i64 v8] : List AV)]).length = P.length + 1 := by rw [List.length_append]; rfl
          exact res_norm (by kernel_rfl) ⟨z - 1, hza, j + 1, J2 ++ [.int .i32 v0, .int .i32 v1, .int .i32 v2, .flt .f32 v3, .flt .f32 v4, .flt .f32 v5, .flt .f32 v6, .int .i64 v7, .int .i64 v8], hzb, by omega, z0, z1, by rw [hsuc, hsl, z5, hiw], by rw [z6, hjw], gO7.grew g9, by rw [hsuc, hsl]; omega, by rw [hsuc, hsl, List.length_append]; show J2.length + 9 + _ = _; omega, by rw [hsuc, g9.at row7, List.flatten_append]; simp only [List.append_assoc, List.flatten_cons, List.flatten_nil, List.append_nil]⟩
        ·
          intro vs ls H9 E9 st hE
          have fq : (farB [.flt .f32 p0, .flt .f32 p1, .flt .f32 p2] rad [.int .i32 v0, .int .i32 v1, .int .i32 v2, .flt .f32 v3, .flt .f32 v4, .flt .f32 v5, .flt .f32 v6, .int .i64 v7, .int .i64 v8]) = true := bfact st.inn 0 (by kernel_rfl)
          rw [fq, if_pos rfl, List.append_nil] at hsuc
          have g9 : Grew H0 H9 := (st.kept.grew (Nat.le_of_ble_eq_true (by kernel_rfl)))
          have z0 : E9 0 = .slice l 0 ms.length cap 9 := env_of st.inn hE 0 (by kernel_rfl)
          have z1 : E9 1 = .func 87 [] [.ptr c 0, .ptr d1 0] := env_of st.inn hE 1 (by kernel_rfl)
          have z5 : E9 5 = .int .i64 (P.length : Int) := env_of st.inn hE 5 (by kernel_rfl)
          have z6 : E9 6 = .int .i64 (IntKind.wrap .i64 ((j : Int) + 1)) := env_of st.inn hE 6 (by kernel_rfl)
          exact res_norm (by kernel_rfl) ⟨z - 1, hza, j + 1, J ++ [.int .i32 v0, .int .i32 v1, .int .i32 v2, .flt .f32 v3, .flt .f32 v4, .flt .f32 v5, .flt .f32 v6, .int .i64 v7, .int .i64 v8], hzb, by omega, z0, z1, by rw [hsuc]; exact z5, by rw [z6, hjw], gO.grew g9, by rw [hsuc]; omega, by rw [hsuc, List.length_append]; show J.length + 9 + _ = _; omega, by rw [hsuc, g9.at row]; simp only [List.append_assoc]⟩
        ·
          intro vs ls H9 E9 st hE
          exact absurd hnj (of_decide_eq_false (bfact (x := decide ((j : Int) < (ms.length : Int))) st.inn 0 (by kernel_rfl)))
      ·
        obtain rfl : j = ms.length := by omega
        refine run_mn (φ := φ0) (pm := pmR 2 [(.len (.nd 0 .one), .nd 2 (.int .i64))] 0) 20 (nk := [(.atom 0, .one), (.atom 1, .int .i64), (.atom 2, .int .i64), (.atom 3, .flt .f32), (.atom 4, .flt .f32), (.atom 5, .flt .f32), (.atom 6, .flt .f32)]) (fs := []) (xs := [.slice l 0 ms.length cap 9, .int .i64 (P.length : Int), .int .i64 (ms.length : Int), .flt .f32 p0, .flt .f32 p1, .flt .f32 p2, .flt .f32 rad]) (ws := [⟨c, 0, [.nd 3 (.flt .f32), .nd 4 (.flt .f32), .nd 5 (.flt .f32)], false⟩, ⟨d1, 0, [.nd 6 (.flt .f32)], false⟩]) (env := [(0, .nd 0 .one), (1, .fn 87 [] [.ptr 0 0, .ptr 1 0]), (5, .nd 1 (.int .i64)), (6, .nd 2 (.int .i64))]) ?_ ?_ tb_ok ap_ok ?_
        · refine midN_in ?_ .nil _ ?_ ?_ ?_
          · exact (.cons rfl rfl (.cons rfl ⟨_, rfl⟩ (.cons rfl ⟨_, rfl⟩ (.cons rfl ⟨_, rfl, q0⟩ (.cons rfl ⟨_, rfl, q1⟩ (.cons rfl ⟨_, rfl, q2⟩ (.cons rfl ⟨_, rfl, hrad⟩ .nil)))))))
          · exact (.cons (win_row hcr (dlCons (dNd rfl ⟨_, rfl, q0⟩) (dlCons (dNd rfl ⟨_, rfl, q1⟩) (dlCons (dNd rfl ⟨_, rfl, q2⟩) dlNil)))) (.cons (win_row hcr1 (dlCons (dNd rfl ⟨_, rfl, hrad⟩) dlNil)) .nil))
          · exact sepOk_ro rfl
          · exact (.cons (rule_len (dNd rfl rfl) (dNd rfl ⟨_, rfl⟩)) .nil)
        · exact (envEq c0 (dNd rfl rfl) (envEq c1 (dFn' dlNil (dlCons (dPtr (l := c) (o := 0) rfl) (dlCons (dPtr (l := d1) (o := 0) rfl) dlNil))) (envEq c5 (dNd rfl ⟨_, rfl⟩) (envEq c6 (dNd rfl ⟨_, rfl⟩) envNil))))
        refine all1 (by kernel_rfl) ?_
        intro vs ls H28 E28 st hE
        have b29 : E28 0 = .slice l 0 ms.length cap 9 := env_of st.inn hE 0 (by kernel_rfl)
        have b30 : E28 5 = .int .i64 (P.length : Int) := env_of st.inn hE 5 (by kernel_rfl)
        have g31 : Grew H0 H28 := (st.kept.grew (Nat.le_of_ble_eq_true (by kernel_rfl)))
        have g32 : Only l H H28 := gO.grew g31
        have r33 := g31.at hcr
        have r34 := g31.at hcr1
        clear st hE vs ls
        have row2 := g31.at row
        rw [List.drop_length, List.flatten_nil] at row2
        refine res_exit (id := 0) (by kernel_rfl) ?_
        refine run_mn (φ := φ0) (pm := pmR 0 [(.slSl 9 (.nd 0 .one) (some (.nd 1 (.int .i64))) none, .nd 2 .one), (.slSl 9 (.nd 0 .one) none (some (.nd 1 (.int .i64))), .nd 3 .one)] 0) 20 (nk := [(.atom 0, .one), (.atom 1, .int .i64), (.atom 2, .one), (.atom 3, .one)]) (fs := []) (xs := [.slice l 0 ms.length cap 9, .int .i64 (P.length : Int), .slice l (P.length * 9) (ms.length - P.length) (cap - P.length) 9, .slice l 0 P.length cap 9]) (ws := []) (env := [(0, .nd 0 .one), (5, .nd 1 (.int .i64))]) ?_ ?_ tb_ok ap_ok ?_
        · refine midN_in ?_ .nil _ ?_ ?_ ?_
          · exact (.cons rfl rfl (.cons rfl ⟨_, rfl⟩ (.cons rfl rfl (.cons rfl rfl .nil))))
          · exact .nil
          · exact sepOk_ro rfl
          · exact (.cons (rule_from (dNd rfl rfl) (dNd rfl ⟨_, rfl⟩) (dNd rfl rfl) (by omega) (by omega)) (.cons (rule_to (dNd rfl rfl) (dNd rfl ⟨_, rfl⟩) (dNd rfl rfl) (by omega)) .nil))
        · exact (envEq b29 (dNd rfl rfl) (envEq b30 (dNd rfl ⟨_, rfl⟩) envNil))
        refine all1 (by kernel_rfl) ?_
        intro vs ls H35 E35 st hE
        have b36 : E35 38 = .slice l (P.length * 9) (ms.length - P.length) (cap - P.length) 9 := env_of st.inn hE 38 (by kernel_rfl)
        have b37 : E35 0 = .slice l 0 ms.length cap 9 := env_of st.inn hE 0 (by kernel_rfl)
        have b38 : E35 5 = .int .i64 (P.length : Int) := env_of st.inn hE 5 (by kernel_rfl)
        have g39 : Grew H28 H35 := (st.kept.grew (Nat.le_of_ble_eq_true (by kernel_rfl)))
        have g40 : Only l H H35 := g32.grew g39
        clear st hE vs ls
        have row3 := g39.at row2
        refine res_clear (d := none) (sz := 9) (zs := [.int .i32 0, .int .i32 0, .int .i32 0, .flt .f32 (some 0), .flt .f32 (some 0), .flt .f32 (some 0), .flt .f32 (some 0), .int .i64 0, .int .i64 0]) (x := .tmp 38) (by kernel_rfl) (p := P.flatten) (C := J) (q := []) b36 row3 hPl (by rw [Nat.sub_mul]; omega) rfl rfl ?_
        intro H7 C7 row7 o7
        have gO7 := g40.trans o7
        refine run_mn (φ := φ0) (pm := pmR 0 [(.slSl 9 (.nd 0 .one) (some (.nd 1 (.int .i64))) none, .nd 2 .one), (.slSl 9 (.nd 0 .one) none (some (.nd 1 (.int .i64))), .nd 3 .one)] 0) 20 (nk := [(.atom 0, .one), (.atom 1, .int .i64), (.atom 2, .one), (.atom 3, .one)]) (fs := []) (xs := [.slice l 0 ms.length cap 9, .int .i64 (P.length : Int), .slice l (P.length * 9) (ms.length - P.length) (cap - P.length) 9, .slice l 0 P.length cap 9]) (ws := []) (env := [(38, .nd 2 .one), (0, .nd 0 .one), (5, .nd 1 (.int .i64))]) ?_ ?_ tb_ok ap_ok ?_
        · refine midN_in ?_ .nil _ ?_ ?_ ?_
          · exact (.cons rfl rfl (.cons rfl ⟨_, rfl⟩ (.cons rfl rfl (.cons rfl rfl .nil))))
          · exact .nil
          · exact sepOk_ro rfl
          · exact (.cons (rule_from (dNd rfl rfl) (dNd rfl ⟨_, rfl⟩) (dNd rfl rfl) (by omega) (by omega)) (.cons (rule_to (dNd rfl rfl) (dNd rfl ⟨_, rfl⟩) (dNd rfl rfl) (by omega)) .nil))
        · exact (envEq (put_no b36) (dNd rfl rfl) (envEq (put_no b37) (dNd rfl rfl) (envEq (put_no b38) (dNd rfl ⟨_, rfl⟩) envNil)))
        refine all1 (by kernel_rfl) ?_
        intro vs ls H9 E9 st hE
        have g9 : Grew H7 H9 := (st.kept.grew (Nat.le_of_ble_eq_true (by kernel_rfl)))
        have gz := gO7.grew g9
        have hfull : P = ms.filter (fun m => !farB [.flt .f32 p0, .flt .f32 p1, .flt .f32 p2] rad m) := by rw [hP, keepTo_full]
        exact res_ex (by kernel_rfl) (end_same st.inn hE (.inr rfl) (a := .slice l 0 P.length cap 9) (by kernel_rfl) gz.next ⟨.of_only gz, by rw [← hfull]; exact .sl (rest := C7 ++ []) (g9.at row7) rfl (by omega), fun l' hl => by rw [atS hl]; exact ⟨_, _, _, _, rfl⟩⟩)
end Go.Proofs.Ytgjhjemmddojfaa
