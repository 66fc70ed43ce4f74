/- Contracts of the law's words for maps. -/
import Derived.Test.YtacligocjfhckaaTToMark
import Derived.Test.YtacligocjfhckaaTValidC
set_option linter.unusedVariables false
set_option linter.unusedSimpArgs false
namespace Go.Proofs.Ytacligocjfhckaa
open Go.Ab
set_option maxRecDepth 100000
attribute [local irreducible] Res
theorem k_szLandMap (H : AHeap) (x : Option Nat) (hx : fOk .f32 x) (ms : List (List AV)) (S : AV) (hS : SlL H 9 ms S) (left : Int) (h0 : 0 ≤ left) (h1 : left ≤ 4611686018427387904) (hm : ms.length ≤ 9223372036854775807) : APure Try.prog 7 [.agg [.flt .f32 x, S], .int .i64 left] H (.int .i64 (if left - ms.length < 0 then -1 else left - ms.length)) := by
 refine res_start h_laws_szLandMap (by simp) ?_
 have hk : ∀ H3, Kept 0 [] H H3 → APure Try.prog 27 [S, .int .i64 left] H3 (.int .i64 (if left - ms.length < 0 then -1 else left - ms.length)) := fun H3 hk => k_szMarkS H3 ms S (hS.grew (hk.grew (Nat.le_refl _))) left h0 h1 hm
 have hr1 : (if left - (ms.length : Int) < 0 then -1 else left - (ms.length : Int)) < 0 → (if left - (ms.length : Int) < 0 then -1 else left - (ms.length : Int)) = -1 := by intro h; split <;> omega
 generalize (if left - (ms.length : Int) < 0 then -1 else left - (ms.length : Int)) = r at hk hr1 ⊢
 refine run_mn (φ := φ0) (pm := pmR 0 [(.call 27 [.nd 1 .one, .nd 2 (.int .i64)], .nd 3 (.int .i64))] 0) 20 (nk := [(.atom 0, .flt .f32), (.atom 1, .one), (.atom 2, .int .i64), (.atom 3, .int .i64)]) (fs := []) (xs := [.flt .f32 x, S, .int .i64 left, .int .i64 r]) (ws := []) (env := [(0, .agg [.nd 0 (.flt .f32), .nd 1 .one]), (1, .nd 2 (.int .i64))]) ?_ ?_ tb_ok ap_ok ?_
 ·
  refine midN_in ?_ .nil _ .nil trivial ?_
  ·
   exact .cons rfl ⟨_, rfl, hx⟩ (.cons rfl (slOne hS) (.cons rfl ⟨_, rfl⟩ (.cons rfl ⟨_, rfl⟩ .nil)))
  ·
   exact .cons (rule_call (args := [S, .int .i64 left]) (dlCons (dNd rfl (slOne hS)) (dlCons (dNd rfl ⟨_, rfl⟩) dlNil)) (dNd rfl ⟨_, rfl⟩) hk) .nil
 ·
  exact envCons (dAgg (dlCons (dNd rfl ⟨_, rfl, hx⟩) (dlCons (dNd rfl (slOne hS)) dlNil))) (envNd rfl rfl ⟨_, rfl⟩ envNil)
 refine all2 (by kernel_rfl) ?_ ?_
 ·
  intro vs ls H' E' st hE
  have f0 : decide (r < 0) = true := bf st 0
  refine res_ex (by kernel_rfl) (end_flat st.inn hE (.inr rfl) (a := .int .i64 (-1)) (by kernel_rfl) (gk st) rfl ⟨?_, rfl⟩)
  rw [hr1 (of_decide_eq_true f0)]
 ·
  intro vs ls H' E' st hE
  exact res_ex (by kernel_rfl) (end_flat st.inn hE (.inr rfl) (a := .int .i64 r) (by kernel_rfl) (gk st) rfl ⟨rfl, rfl⟩)
theorem k_toLandMap (H : AHeap) (x : Option Nat) (hx : fOk .f32 x) (ms : List (List AV)) (hr : Recs KM ms) (S : AV) (hS : SlL H 9 ms S) (hmax : ms.length ≤ 1048576) : ACalls Try.prog 9 [.agg [.flt .f32 x, S]] H fun r H' => Grew H H' ∧ ∃ l, H.next ≤ l ∧ r = .agg [.flt .f32 x, .slice l 0 ms.length ms.length 9] ∧ H'.get l = some (.row ms.flatten true) := by
 refine res_start h_laws_toLandMap (by simp) ?_
 refine run_mn (φ := φ0) (pm := pmR 0 [] 0) 20 (nk := [(.atom 0, .flt .f32), (.atom 1, .one)]) (fs := []) (xs := [.flt .f32 x, S]) (ws := []) (env := [(0, .agg [.nd 0 (.flt .f32), .nd 1 .one])]) ?_ ?_ tb_ok ap_ok ?_
 ·
  refine midN_in ?_ .nil _ .nil trivial .nil
  exact .cons rfl ⟨_, rfl, hx⟩ (.cons rfl (slOne hS) .nil)
 ·
  exact envCons (dAgg (dlCons (dNd rfl ⟨_, rfl, hx⟩) (dlCons (dNd rfl (slOne hS)) dlNil))) envNil
 refine all1 (by kernel_rfl) ?_
 intro vs ls H1 E1 st hE
 have a8 : E1 8 = S := env_of st.inn hE 8 (by kernel_rfl)
 obtain ⟨p, e2, r2, n2⟩ := ptr_of st.inn hE 2 1 (by kernel_rfl) (ds := [.flt .f32 (some 0), .nilslice]) (by kernel_rfl)
 obtain ⟨q, e3, r3, n3⟩ := ptr_of st.inn hE 3 2 (by kernel_rfl) (ds := [.flt .f32 x, .nilslice]) (by kernel_rfl)
 have hne : p ≠ q := ptr_ne st.inn hE 2 1 3 2 (by kernel_rfl) (by kernel_rfl) (cs := [.lit (.flt .f32 (some 0)), .lit .nilslice]) (by kernel_rfl) (by decide) e2 e3
 have hp : H.next ≤ p := n2 (Nat.zero_le _)
 have hq : H.next ≤ q := n3 (Nat.zero_le _)
 have g1 : Grew H H1 := (gk st)
 clear st hE vs ls n2 n3
 refine res_call (d := some 9) (f := 32) (args := [.tmp 8]) (by kernel_rfl) (R := fun r H' => Grew H1 H' ∧ ∃ l, H1.next ≤ l ∧ r = .slice l 0 ms.length ms.length 9 ∧ H'.get l = some (.row ms.flatten true)) ?_ ?_
 ·
  show ACalls _ _ [E1 8] _ _
  rw [a8]
  exact k_toMarkS H1 ms hr S (hS.grew g1) hmax
 rintro r H2 ⟨g2, l, hl, rfl, hrow⟩
 have r2' := g2.at r2
 have r3' := g2.at r3
 refine run_mn (φ := φ0) (pm := pmR 0 [] 0) 20 (nk := [(.atom 0, .flt .f32), (.atom 1, .one)]) (fs := []) (xs := [.flt .f32 x, .slice l 0 ms.length ms.length 9]) (ws := [⟨p, 0, [.lit (.flt .f32 (some 0)), .lit .nilslice], true⟩, ⟨q, 0, [.nd 0 (.flt .f32), .lit .nilslice], true⟩]) (env := [(2, .ptr 0 0), (3, .ptr 1 0), (9, .nd 1 .one)]) ?_ ?_ tb_ok ap_ok ?_
 ·
  refine midN_in ?_ .nil _ ?_ ?_ .nil
  ·
   exact .cons rfl ⟨_, rfl, hx⟩ (.cons rfl rfl .nil)
  ·
   exact .cons (win_own r2' (dlCons (dLit (by decide +kernel)) (dlCons (dLit rfl) dlNil))) (.cons (win_own r3' (dlCons (dNd rfl ⟨_, rfl, hx⟩) (dlCons (dLit rfl) dlNil))) .nil)
  ·
   exact ⟨fun v hv _ => (by simp at hv; subst hv; exact hne), ⟨fun v hv => (by cases hv), trivial⟩⟩
 ·
  exact envPtr (l := p) (o := 0) (by rw [Env.put_some]; simpa using e2) rfl rfl (envPtr (l := q) (o := 0) (by rw [Env.put_some]; simpa using e3) rfl rfl (envNd (by rw [Env.put_some]; simp) rfl rfl envNil))
 ·
  refine all1 (by kernel_rfl) ?_
  intro vs ls H3 E3 st hE
  have g3 : Grew H H3 := Kept.grew_from (g1.trans g2) st.kept (fun l b hlb => by simp [winLs] at hlb; rcases hlb with ⟨rfl, _⟩ | ⟨rfl, _⟩ <;> assumption)
  refine res_ex (by kernel_rfl) (end_same st.inn hE (.inr rfl) (a := .agg [.flt .f32 x, .slice l 0 ms.length ms.length 9]) (by kernel_rfl) g3.next ⟨g3, l, by have := g1.next; omega, rfl, ?_⟩)
  rw [st.kept.2 l (H2.lt_of_get hrow) (fun j b _ e => by
   have hm := List.mem_of_getElem? e
   simp [winLs] at hm
   have h2 := H1.lt_of_get r2
   have h3 := H1.lt_of_get r3
   rcases hm with ⟨rfl, _⟩ | ⟨rfl, _⟩ <;> omega)]
  exact hrow
theorem k_eqLandMap (H : AHeap) (x : Option Nat) (hx : fOk .f32 x) (ms : List (List AV)) (hr : Recs KM ms) (S S' : AV) (hS : SlL H 9 ms S) (hS' : SlL H 9 ms S') (hmax : ms.length < 2 ^ 40) : APure Try.prog 12 [.agg [.flt .f32 x, S], .agg [.flt .f32 x, S']] H (.bool true) := by
 refine res_start h_laws_eqLandMap (by simp) ?_
 refine run_lit (φ := φ0) (pm := pmR 0 [(.call 39 [.nd 1 .one, .nd 2 .one], .lit (.bool true))] 0) 20 (nk := [(.atom 0, .flt .f32), (.atom 1, .one), (.atom 2, .one)]) (fs := []) (xs := [.flt .f32 x, S, S']) (ws := []) (env := [(0, .agg [.nd 0 (.flt .f32), .nd 1 .one]), (1, .agg [.nd 0 (.flt .f32), .nd 2 .one])]) ?_ ?_ tb_ok ap_ok (Grew.refl H) rfl ⟨rfl, rfl⟩ (by kernel_rfl)
 ·
  refine midN_in ?_ .nil _ .nil trivial ?_
  ·
   exact .cons rfl ⟨_, rfl, hx⟩ (.cons rfl (slOne hS) (.cons rfl (slOne hS') .nil))
  ·
   exact .cons (rule_call (args := [S, S']) (dlCons (dNd rfl (slOne hS)) (dlCons (dNd rfl (slOne hS')) dlNil)) (dLit rfl) (fun H3 hk => k_eqMarkS H3 ms hr S S' (hS.grew (hk.grew (Nat.le_refl _))) (hS'.grew (hk.grew (Nat.le_refl _))) hmax)) .nil
 ·
  exact envCons (dAgg (dlCons (dNd rfl ⟨_, rfl, hx⟩) (dlCons (dNd rfl (slOne hS)) dlNil))) (envCons (dAgg (dlCons (dNd rfl ⟨_, rfl, hx⟩) (dlCons (dNd rfl (slOne hS')) dlNil))) envNil)
end Go.Proofs.Ytacligocjfhckaa
