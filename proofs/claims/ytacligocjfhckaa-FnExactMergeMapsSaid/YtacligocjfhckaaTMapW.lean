/- Contracts of the law's words for maps: copies in new memory, marks. -/
import Derived.Test.YtacligocjfhckaaTHeld
import Derived.Test.YtacligocjfhckaaSxD
set_option linter.unusedVariables false
set_option linter.unusedSimpArgs false
namespace Go.Proofs.Ytacligocjfhckaa
open Go.Ab
set_option maxRecDepth 100000
attribute [local irreducible] Res
theorem w_toLandMap (H : AHeap) (x : Option Nat) (hx : fOk .f32 x) (ms : List (List AV)) (hr : Recs KM ms) (S : AV) (hS : SlL H 9 ms S) (hmax : ms.length ≤ 1048576) : ACalls Try.prog 9 [.agg [.flt .f32 x, S]] H fun r H' => Grew H H' ∧ ∃ S', r = .agg [.flt .f32 x, S'] ∧ SlW H' 9 ms S' ∧ FreshS H.next S' := by
 refine (k_toLandMap H x hx ms hr S hS hmax).mono ?_
 rintro r H' ⟨g, l, hl, rfl, row⟩
 exact ⟨g, _, rfl, .sl (rest := []) (by simpa using row) rfl (Nat.le_refl _), .of_le hl⟩
theorem w_markMarkS (H : AHeap) (ms : List (List AV)) (hr : Recs KM ms) (S : AV) (hS : SlW H 9 ms S) (k : Int) (h0 : 0 ≤ k) (h1 : k ≤ 1152921504606846976) (hmax : ms.length ≤ 1048576) : ACalls Try.prog 40 [S, .int .i64 k] H fun r H' => r = .int .i64 (k + 9 * (ms.length : Int)) ∧ OnlyS S H H' ∧ SlW H' 9 (mksMark k ms.length) S := by
 cases hS with
 | @sl l n cap rest hg hn hc =>
  subst hn
  refine (k_markMarkS H ms hr l cap rest hg k h0 h1 hmax).mono ?_
  rintro r H' ⟨rfl, ho, row⟩
  exact ⟨rfl, .of_only ho, .sl row (mksMark_len _ _) hc⟩
 | nil h =>
  subst h
  refine res_start h_laws_markMarkS (by simp) ?_
  have q1 : KdsL [KI] [.int .i64 k] := .cons ⟨_, rfl⟩ .nil
  refine run_mc (φ := φ0) (pm := pmR 0 [] 2) 20 (ws := []) (env := [(0, .lit .nilslice), (1, nI 0)]) q1 .nil (sepOk_ro rfl) .nil (eC q1 (.cons (t := 0) rfl (.cons (t := 1) rfl .nil))) tb_ok ap_ok ?_
  refine all1 (by kernel_rfl) ?_
  intro vs ls H9 E9 st hE
  have g9 : Grew H H9 := (gk st)
  exact res_ex (by kernel_rfl) (end_same st.inn hE (.inr rfl) (a := .int .i64 k) (by kernel_rfl) g9.next ⟨by simp, .of_grew g9, .nil rfl⟩)
theorem w_markLandMap (H : AHeap) (x : Option Nat) (hx : fOk .f32 x) (ms : List (List AV)) (hr : Recs KM ms) (S : AV) (hS : SlW H 9 ms S) (k : Int) (h0 : 0 ≤ k) (h1 : k ≤ 1152921504606846976) (hmax : ms.length ≤ 1048576) : ACalls Try.prog 13 [.agg [.flt .f32 x, S], .int .i64 k] H fun r H' => r = .int .i64 (k + 9 * (ms.length : Int)) ∧ OnlyS S H H' ∧ SlW H' 9 (mksMark k ms.length) S := by
 refine res_start h_laws_markLandMap (by simp) ?_
 have q1 : KdsL [KF, .one, KI] [.flt .f32 x, S, .int .i64 k] := .cons ⟨_, rfl, hx⟩ (.cons hS.one (.cons ⟨_, rfl⟩ .nil))
 refine run_mc (φ := φ0) (pm := pmR 0 [] 0) 20 (ws := []) (env := [(0, .agg [nF 0, n1 1]), (1, nI 2)]) q1 .nil (sepOk_ro rfl) .nil (eC q1 (.cons (t := 0) rfl (.cons (t := 1) rfl .nil))) tb_ok ap_ok ?_
 refine all1 (by kernel_rfl) ?_
 intro vs ls H2 E2 st hE
 have b3 := eo st hE 6 S
 have b4 := eo st hE 7 (.int .i64 k)
 have b5 := eo st hE 1 (.int .i64 k)
 have g6 : Grew H H2 := (gk st)
 have g7 : Grew H H2 := Grew.trans (Grew.refl _) g6
 clear st hE vs ls
 refine res_call (d := (some 8)) (f := 40) (args := [.tmp 6, .tmp 7]) (by kernel_rfl) (R := fun z H' => z = .int .i64 (k + 9 * (ms.length : Int)) ∧ OnlyS S H2 H' ∧ SlW H' 9 (mksMark k ms.length) S) ?_ ?_
 ·
  show ACalls _ _ [E2 6, E2 7] _ _
  rw [b3, b4]
  exact w_markMarkS H2 ms hr S (hS.grew g7) k h0 h1 hmax
 rintro z H8 ⟨rfl, oo, nn⟩
 have oz : OnlyS S H H8 := ⟨Nat.le_trans g7.next oo.next, fun l hl hn => (oo.get l (Nat.lt_of_lt_of_le hl g7.next) hn).trans (g7.get l hl)⟩
 have q9 := q1.app (.cons ⟨_, rfl⟩ .nil : KdsL [KI] [.int .i64 (k + 9 * (ms.length : Int))])
 refine run_mc (φ := φ0) (pm := pmR 0 [] 0) 20 (ws := []) (env := [(6, n1 1), (7, nI 2), (1, nI 2), (8, nI 3)]) q9 .nil (sepOk_ro rfl) .nil (eC q9 (.cons (put_ne rfl b3) (.cons (put_ne rfl b4) (.cons (put_ne rfl b5) (.cons put_same .nil))))) tb_ok ap_ok ?_
 refine all1 (by kernel_rfl) ?_
 intro vs ls H10 E10 st hE
 have g9 : Grew H8 H10 := (gk st)
 exact res_ex (by kernel_rfl) (end_same st.inn hE (.inr rfl) (a := .int .i64 (k + 9 * (ms.length : Int))) (by kernel_rfl) (Nat.le_trans oz.next g9.next) ⟨rfl, ⟨Nat.le_trans oz.next g9.next, fun l hl hn => (g9.get l (Nat.lt_of_lt_of_le hl oz.next)).trans (oz.get l hl hn)⟩, nn.grew g9⟩)
theorem w_heldLandMap (H : AHeap) (x : Option Nat) (hx : fOk .f32 x) (k : Int) (n : Nat) (S : AV) (hS : SlL H 9 (mksMark k n) S) (h0 : 0 ≤ k) (h1 : k ≤ 1152921504606846976) (hmax : n ≤ 1048576) : APure Try.prog 14 [.agg [.flt .f32 x, S], .int .i64 k] H (.int .i64 (k + 9 * (n : Int))) := by
 refine res_start h_laws_heldLandMap (by simp) ?_
 have q1 : KdsL [KF, .one, KI, KI] [.flt .f32 x, S, .int .i64 k, .int .i64 (k + 9 * (n : Int))] := .cons ⟨_, rfl, hx⟩ (.cons (slOne hS) (.cons ⟨_, rfl⟩ (.cons ⟨_, rfl⟩ .nil)))
 refine run_mc (φ := φ0) (pm := pmR 0 [(.call 41 [n1 1, nI 2], nI 3)] 0) 20 (ws := []) (env := [(0, .agg [nF 0, n1 1]), (1, nI 2)]) q1 .nil (sepOk_ro rfl) (.cons (rule_call (args := [S, .int .i64 k]) (dL q1) (dE q1) (fun H9 hk => k_heldMarkS H9 k n S (hS.grew (Grew.trans (Grew.refl _) (hk.grew (Nat.le_refl _)))) h0 h1 hmax)) .nil) (eC q1 (.cons (t := 0) rfl (.cons (t := 1) rfl .nil))) tb_ok ap_ok ?_
 refine all2 (by kernel_rfl) ?_ ?_
 ·
  intro vs ls H2 E2 st hE
  have f3 : (k + 9 * (n : Int)) < 0 := dt st 0
  exact absurd f3 (by omega)
 ·
  intro vs ls H4 E4 st hE
  have f5 : ¬ ((k + 9 * (n : Int)) < 0) := df st 0
  refine res_ex (by kernel_rfl) (end_flat st.inn hE (.inr rfl) (a := .int .i64 (k + 9 * (n : Int))) (by kernel_rfl) (Grew.trans (Grew.refl _) (gk st)) rfl ⟨?_, rfl⟩)
  rfl
end Go.Proofs.Ytacligocjfhckaa
