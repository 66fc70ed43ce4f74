/- Contracts: PutMark, by both. -/
import Derived.Test.YtacligocjfhckaaTPut
import Derived.Test.YtacligocjfhckaaTMapArg
set_option linter.unusedVariables false
set_option linter.unusedSimpArgs false
namespace Go.Proofs.Ytacligocjfhckaa
open Go.Ab
set_option maxRecDepth 100000
set_option maxHeartbeats 1000000
attribute [local irreducible] Res
theorem okMap_len {x : Option Nat} {ms : List (List AV)} (h : okMap x ms = true) : ms.length ≤ 200 := by
 simp only [okMap, Bool.and_eq_true, decide_eq_true_eq] at h
 exact h.2.1
theorem okMap_markX {x : Option Nat} {ms : List (List AV)} (hr : Recs KM ms) (h : okMap x ms = true) : ∀ m ∈ ms, markX m = true := by
 intro m hm
 obtain ⟨i, hi, he⟩ := List.getElem_of_mem hm
 have hk : okAt ms i = true := by
  cases hb : okAt ms i with
  | true => rfl
  | false => rw [okMap_at hi hb] at h; cases h
 have hm2 : markB (ms.getD i []) = true := by
  unfold okAt at hk; rw [Bool.and_eq_true] at hk; exact hk.1
 have hg : ms.getD i [] = m := by rw [← he]; simp [List.getD_eq_getElem?_getD, hi]
 rw [hg] at hm2
 obtain ⟨v0, v1, v2, v3, v4, v5, v6, v7, v8, rfl, o3, o4, o5, o6⟩ := partsMark (hr m hm)
 have hd : KdsL KM [.int .i32 v0, .int .i32 v1, .int .i32 v2, .flt .f32 v3, .flt .f32 v4, .flt .f32 v5, .flt .f32 v6, .int .i64 v7, .int .i64 v8] := .cons ⟨_, rfl⟩ (.cons ⟨_, rfl⟩ (.cons ⟨_, rfl⟩ (.cons ⟨_, rfl, o3⟩ (.cons ⟨_, rfl, o4⟩ (.cons ⟨_, rfl, o5⟩ (.cons ⟨_, rfl, o6⟩ (.cons ⟨_, rfl⟩ (.cons ⟨_, rfl⟩ .nil))))))))
 obtain ⟨z, hz⟩ := agg_val (μ := fun _ => none) hd (by decide)
 have e := uniqB h_impl_validMark (by kernel_rfl) ⟨[z], .cons hz RL.nil⟩ (k_validMark _ hd) (k_validMarkX v0 v1 v2 v3 v4 v5 v6 v7 v8 o3 o4 o5 o6)
 rw [← e]; exact hm2
theorem betW_eq (v0 v1 v2 : Int) (v3 v4 v5 v6 : Option Nat) (v7 v8 : Int) (o3 : fOk .f32 v3) (o4 : fOk .f32 v4) (o5 : fOk .f32 v5) (o6 : fOk .f32 v6) (u0 u1 u2 : Int) (u3 u4 u5 u6 : Option Nat) (u7 u8 : Int) (p3 : fOk .f32 u3) (p4 : fOk .f32 u4) (p5 : fOk .f32 u5) (p6 : fOk .f32 u6) (h : markX [.int .i32 v0, .int .i32 v1, .int .i32 v2, .flt .f32 v3, .flt .f32 v4, .flt .f32 v5, .flt .f32 v6, .int .i64 v7, .int .i64 v8] = true) (h' : markX [.int .i32 u0, .int .i32 u1, .int .i32 u2, .flt .f32 u3, .flt .f32 u4, .flt .f32 u5, .flt .f32 u6, .int .i64 u7, .int .i64 u8] = true) : betW atP [.int .i32 v0, .int .i32 v1, .int .i32 v2, .flt .f32 v3, .flt .f32 v4, .flt .f32 v5, .flt .f32 v6, .int .i64 v7, .int .i64 v8] [.int .i32 u0, .int .i32 u1, .int .i32 u2, .flt .f32 u3, .flt .f32 u4, .flt .f32 u5, .flt .f32 u6, .int .i64 u7, .int .i64 u8] = betX [.int .i32 v0, .int .i32 v1, .int .i32 v2, .flt .f32 v3, .flt .f32 v4, .flt .f32 v5, .flt .f32 v6, .int .i64 v7, .int .i64 v8] [.int .i32 u0, .int .i32 u1, .int .i32 u2, .flt .f32 u3, .flt .f32 u4, .flt .f32 u5, .flt .f32 u6, .int .i64 u7, .int .i64 u8] := by
 obtain ⟨a3, a4, a5⟩ := markX_fin h o3 o4 o5
 obtain ⟨b3, b4, b5⟩ := markX_fin h' p3 p4 p5
 unfold betX
 rw [h, h']
 simp only [betW, at_eq o3 p3 a3 b3, at_eq o4 p4 a4 b4, at_eq o5 p5 a5 b5, Bool.true_and]
theorem putOk_len {ms : List (List AV)} {m : List AV} (h : ms.length ≤ 200) : putOk ms m = decide (((putL ms m).length : Int) ≤ 200) := by
 unfold putOk
 rw [putL_len]
 cases fndM ms m with
 | true =>
  rw [if_pos rfl]
  exact (decide_eq_true (by omega)).symm
 | false =>
  rw [if_neg (by decide)]
  by_cases h2 : (ms.length : Int) = 200
  ·
   rw [decide_eq_true h2, decide_eq_false (by omega)]; rfl
  ·
   rw [decide_eq_false h2, decide_eq_true (by omega)]; rfl
theorem k_ownMap (H : AHeap) (x : Option Nat) (hx : fOk .f32 x) (ms : List (List AV)) (hr : Recs KM ms) (S : AV) (hS : SlL H 9 ms S) (mxms : ms.length ≤ 1048576) : ACalls Try.prog 36 [.agg [.flt .f32 x, S]] H fun r H' => Grew H H' ∧ ∃ S', r = .agg [.flt .f32 x, S'] ∧ SlF H' 9 ms S' ∧ FreshS H.next S' := by
 refine res_start h_impl_ownMap (by simp) ?_
 have q1 : KdsL [KF, .one] [.flt .f32 x, S] := .cons ⟨_, rfl, hx⟩ (.cons (slOne hS) .nil)
 refine run_mc (φ := φ0) (pm := pmR 0 [] 0) 20 (ws := []) (env := [(0, .agg [nF 0, n1 1])]) q1 .nil (sepOk_ro rfl) .nil (eC q1 (.cons (t := 0) rfl .nil)) tb_ok ap_ok ?_
 refine all1 (by kernel_rfl) ?_
 intro vs ls H2 E2 st hE
 obtain ⟨p3, e4, r5, n6⟩ := ptr_of st.inn hE 2 1 (by kernel_rfl) (ds := [.flt .f32 (some 0), .nilslice]) (by kernel_rfl)
 have op3 : H.next ≤ p3 := Nat.le_trans (Nat.le_refl _) (n6 (Nat.le_of_ble_eq_true rfl))
 have b7 := eo st hE 6 S
 have b8 := eo st hE 4 (.flt .f32 x)
 have g9 : Grew H H2 := (gk st)
 have g10 : Grew H H2 := Grew.trans (Grew.refl _) g9
 clear st hE vs ls
 refine res_kid (free := false) (d := (some 7)) (f := 60) (args := [.tmp 6]) (by kernel_rfl) (R := fun z H' => Grew H2 H' ∧ SlF H' 9 ms z ∧ FreshS H2.next z) ?_ ?_
 ·
  show ACalls _ _ [E2 6] _ _
  rw [b7]
  exact k_CloneM H2 ms hr (S) (hS.grew g10) mxms
 rintro S11 H12 ⟨gS11, sS11, fS11⟩
 refine ⟨gS11, ?_⟩
 have ne13 : ApartL (S11) p3 := fS11.apartL (H2.lt_of_get r5)
 have fr14 : FreshS H.next (S11) := fS11.mono g10.next
 have g15 : Grew H H12 := Grew.trans g10 gS11
 have r16 := gS11.at r5
 have q17 := q1.app (.cons sS11.one .nil : KdsL [.one] [S11])
 refine run_mc (φ := φ0) (pm := pmR 0 [] 0) 20 (ws := [⟨p3, 0, [.lit (.flt .f32 (some 0)), .lit .nilslice], true⟩]) (env := [(6, n1 1), (4, nF 0), (2, .ptr 0 0), (7, n1 2)]) q17 (.cons (wO r16 q17) .nil) (sepD (by repeat (first | exact .nil | refine .cons (by first | assumption | exact Apart.symm (by assumption)) ?_))) .nil (eC q17 (.cons (put_ne rfl b7) (.cons (put_ne rfl b8) (.cons (put_ne rfl e4) (.cons put_same .nil))))) tb_ok ap_ok ?_
 refine all1 (by kernel_rfl) ?_
 intro vs ls H18 E18 st hE
 have gz : Grew H H18 := (grew_own g15 (st.inn.kept) ⟨op3, trivial⟩)
 exact res_ex (by kernel_rfl) (end_same st.inn hE (.inr rfl) (a := .agg [.flt .f32 x, S11]) (by kernel_rfl) gz.next ⟨gz, _, rfl, (sS11.keep st.inn.kept ⟨by assumption, trivial⟩), fr14⟩)
end Go.Proofs.Ytacligocjfhckaa
