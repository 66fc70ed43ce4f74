/- Contracts: a mark put into a map, by both. -/
import Derived.Test.YtacligocjfhckaaTIns
import Derived.Test.YtacligocjfhckaaTBet
import Derived.Test.YtacligocjfhckaaTFindC
import Derived.Test.YtacligocjfhckaaSxE
set_option linter.unusedVariables false
set_option linter.unusedSimpArgs false
namespace Go.Proofs.Ytacligocjfhckaa
open Go.Ab
set_option maxRecDepth 100000
set_option maxHeartbeats 1000000
attribute [local irreducible] Res
def linM (ms : List (List AV)) : List AV → Nat
 | .int _ a :: .int _ b :: .int _ c :: _ => lin ms a b c
 | _ => 0
def fndM (ms : List (List AV)) : List AV → Bool
 | .int _ a :: .int _ b :: .int _ c :: _ => fnd ms a b c
 | _ => false
/-- A mark put into a list of marks. -/
def putL (ms : List (List AV)) (m : List AV) : List (List AV) :=
 if fndM ms m = true then (if betX m (ms.getD (linM ms m) []) = true then ms.set (linM ms m) m else ms) else ms.take (linM ms m) ++ [m] ++ ms.drop (linM ms m)
def putOk (ms : List (List AV)) (m : List AV) : Bool := fndM ms m || !decide ((ms.length : Int) = 200)
theorem lin_le (ms : List (List AV)) (a b c : Int) : lin ms a b c ≤ ms.length := by unfold lin; exact (List.takeWhile_sublist _).length_le
theorem fnd_lt {ms : List (List AV)} {a b c : Int} (h : fnd ms a b c = true) : lin ms a b c < ms.length := by
 unfold fnd at h
 rw [Bool.and_eq_true] at h
 exact of_decide_eq_true h.1
theorem ins_recs {ms : List (List AV)} (h : Recs KM ms) {m : List AV} (k : KdsL KM m) {i : Nat} : Recs KM (ms.take i ++ [m] ++ ms.drop i) := by
 intro y hy
 simp only [List.mem_append, List.mem_singleton] at hy
 rcases hy with (hy | hy) | hy
 ·
  exact h y (List.mem_of_mem_take hy)
 ·
  rw [hy]; exact k
 ·
  exact h y (List.mem_of_mem_drop hy)
theorem putL_recs {ms : List (List AV)} (h : Recs KM ms) {m : List AV} (k : KdsL KM m) : Recs KM (putL ms m) := by
 unfold putL
 split
 ·
  split
  ·
   exact Recs.set h k
  ·
   exact h
 ·
  exact ins_recs h k
theorem linM_le (ms : List (List AV)) (m : List AV) : linM ms m ≤ ms.length := by
 unfold linM
 split
 ·
  exact lin_le _ _ _ _
 ·
  exact Nat.zero_le _
theorem putL_len (ms : List (List AV)) (m : List AV) : (putL ms m).length = if fndM ms m = true then ms.length else ms.length + 1 := by
 have := linM_le ms m
 unfold putL
 split
 ·
  split <;> simp
 ·
  simp; omega
theorem k_find' (H : AHeap) (x : Option Nat) (hx : fOk .f32 x) (ms : List (List AV)) (hr : Recs KM ms) (hsort : SortM ms) (S : AV) (hS : SlL H 9 ms S) (a b c : Int) (p : Nat) (fd : Bool) (hp : lin ms a b c = p) (hfd : fnd ms a b c = fd) (hmax : ms.length < 2 ^ 40) : APure Try.prog 61 [.agg [.flt .f32 x, S], .agg [.int .i32 a, .int .i32 b, .int .i32 c]] H (.tuple [.int .i64 (p : Int), .bool fd]) := by
 subst hp
 subst hfd
 exact k_find H x hx ms hr hsort S hS a b c hmax
theorem k_put (H : AHeap) (x : Option Nat) (hx : fOk .f32 x) (ms : List (List AV)) (hr : Recs KM ms) (S : AV) (hS : SlF H 9 ms S) (hsort : SortM ms) (hmx : ms.length ≤ 1048576) (lm : Nat) (hlm : H.get lm = some (.row [.flt .f32 x, S] true)) (hap : ApartL S lm) (v0 v1 v2 : Int) (v3 v4 v5 v6 : Option Nat) (v7 v8 : Int) (o3 : fOk .f32 v3) (o4 : fOk .f32 v4) (o5 : fOk .f32 v5) (o6 : fOk .f32 v6) : ACalls Try.prog 37 [.ptr lm 0, .agg [.int .i32 v0, .int .i32 v1, .int .i32 v2, .flt .f32 v3, .flt .f32 v4, .flt .f32 v5, .flt .f32 v6, .int .i64 v7, .int .i64 v8]] H fun r H' => Only2 (PT lm) S H H' ∧ r = .bool (putOk ms [.int .i32 v0, .int .i32 v1, .int .i32 v2, .flt .f32 v3, .flt .f32 v4, .flt .f32 v5, .flt .f32 v6, .int .i64 v7, .int .i64 v8]) ∧ (putOk ms [.int .i32 v0, .int .i32 v1, .int .i32 v2, .flt .f32 v3, .flt .f32 v4, .flt .f32 v5, .flt .f32 v6, .int .i64 v7, .int .i64 v8] = true → ∃ S', H'.get lm = some (.row [.flt .f32 x, S'] true) ∧ SlF H' 9 (putL ms [.int .i32 v0, .int .i32 v1, .int .i32 v2, .flt .f32 v3, .flt .f32 v4, .flt .f32 v5, .flt .f32 v6, .int .i64 v7, .int .i64 v8]) S' ∧ FromS H.next S S') := by
 obtain ⟨p, hp⟩ : ∃ p, lin ms v0 v1 v2 = p := ⟨_, rfl⟩
 obtain ⟨fd, hfd⟩ : ∃ p, fnd ms v0 v1 v2 = p := ⟨_, rfl⟩
 have hpl0 : p ≤ ms.length := by rw [← hp]; exact lin_le _ _ _ _
 refine res_start h_impl_LandMap_put (by simp) ?_
 have q1 : KdsL [KF, .one, K2, K2, K2, KF, KF, KF, KF, KI, KI, KI, .bool, KI] [.flt .f32 x, S, .int .i32 v0, .int .i32 v1, .int .i32 v2, .flt .f32 v3, .flt .f32 v4, .flt .f32 v5, .flt .f32 v6, .int .i64 v7, .int .i64 v8, .int .i64 (p : Int), .bool fd, .int .i64 (ms.length : Int)] := .cons ⟨_, rfl, hx⟩ (.cons hS.one (.cons ⟨_, rfl⟩ (.cons ⟨_, rfl⟩ (.cons ⟨_, rfl⟩ (.cons ⟨_, rfl, o3⟩ (.cons ⟨_, rfl, o4⟩ (.cons ⟨_, rfl, o5⟩ (.cons ⟨_, rfl, o6⟩ (.cons ⟨_, rfl⟩ (.cons ⟨_, rfl⟩ (.cons ⟨_, rfl⟩ (.cons ⟨_, rfl⟩ (.cons ⟨_, rfl⟩ .nil)))))))))))))
 refine run_mc (φ := φ0) (pm := pmR 1 [(.call 61 [.agg [nF 0, n1 1], .agg [n2 2, n2 3, n2 4]], .tup [nI 11, nB 12]), (.len (n1 1), nI 13)] 0) 20 (ws := [⟨lm, 0, [nF 0, n1 1], false⟩]) (env := [(0, .ptr 0 0), (1, .agg [n2 2, n2 3, n2 4, nF 5, nF 6, nF 7, nF 8, nI 9, nI 10])]) q1 (.cons (wR hlm q1) .nil) (sepOk_ro rfl) (.cons (rule_call (args := [.agg [.flt .f32 x, S], .agg [.int .i32 v0, .int .i32 v1, .int .i32 v2]]) (dL q1) (dE q1) (fun H9 hk => k_find' H9 x hx ms hr hsort S ((hS.grew (hk.grew (Nat.le_refl _)))).toL v0 v1 v2 p fd hp hfd (mx40 hmx))) (.cons (⟨_, _, (dE q1), (dE q1), slLen (hS.toL)⟩) .nil)) (eC q1 (.cons (t := 0) rfl (.cons (t := 1) rfl .nil))) tb_ok ap_ok ?_
 refine all3 (by kernel_rfl) ?_ ?_ ?_
 ·
  intro vs ls H2 E2 st hE
  have f3 : fd = true := bf st 0
  have hpl : p < ms.length := by rw [← hp]; exact fnd_lt (hfd.trans f3)
  obtain ⟨p4, e5, r6, n7⟩ := ptr_of st.inn hE 3 1 (by kernel_rfl) (ds := [.int .i32 v0, .int .i32 v1, .int .i32 v2, .flt .f32 v3, .flt .f32 v4, .flt .f32 v5, .flt .f32 v6, .int .i64 v7, .int .i64 v8]) (by kernel_rfl)
  have op4 : H.next ≤ p4 := Nat.le_trans (Nat.le_refl _) (n7 (Nat.le_of_ble_eq_true rfl))
  have ne8 := apn hlm (n7 (Nat.le_of_ble_eq_true rfl))
  have ne9 : ApartL (S) p4 := hS.apart_new (n7 (Nat.le_of_ble_eq_true rfl))
  have b10 := eo st hE 34 S
  have b11 := eo st hE 35 (.int .i64 (p : Int))
  have b12 := eo st hE 30 (.agg [.int .i32 v0, .int .i32 v1, .int .i32 v2, .flt .f32 v3, .flt .f32 v4, .flt .f32 v5, .flt .f32 v6, .int .i64 v7, .int .i64 v8])
  have b13 := eo st hE 29 (.bool fd)
  have b14 := eo st hE 0 (.ptr lm 0)
  have b15 := eo st hE 5 (.int .i64 (p : Int))
  have b16 := eo st hE 6 (.bool fd)
  have g17 : Grew H H2 := (gk st)
  have g18 : Only2 (PT lm) S H H2 := (Only2.refl _ _ _).grewR g17
  have r19 := g17.at hlm
  have s20 := hS.grew g17
  clear st hE vs ls
  have hlt21 : p < ms.length := by omega
  obtain ⟨lS21, cap21, rest21, wr21, eS21, gS21⟩ := (s20.toL).isSl hlt21
  have ne22 : Apart lm lS21 := ⟨fun e => (show ApartL (S) lm by assumption).ne ⟨0, _, _, _, by rw [e]; exact eS21⟩⟩
  have ne23 : Apart p4 lS21 := ⟨fun e => (show ApartL (S) p4 by assumption).ne ⟨0, _, _, _, by rw [e]; exact eS21⟩⟩
  obtain ⟨v21_0, v21_1, v21_2, v21_3, v21_4, v21_5, v21_6, v21_7, v21_8, hm21, ho21_3, ho21_4, ho21_5, ho21_6⟩ := partsMark (hr.get hlt21)
  have he21 : ms.getD p [] = [.int .i32 v21_0, .int .i32 v21_1, .int .i32 v21_2, .flt .f32 v21_3, .flt .f32 v21_4, .flt .f32 v21_5, .flt .f32 v21_6, .int .i64 v21_7, .int .i64 v21_8] := by rw [← hm21, List.getD_eq_getElem?_getD, List.getElem?_eq_getElem hlt21]; rfl
  have q24 := q1.app (.cons ⟨_, rfl⟩ (.cons ⟨_, rfl⟩ (.cons ⟨_, rfl⟩ (.cons ⟨_, rfl, ho21_3⟩ (.cons ⟨_, rfl, ho21_4⟩ (.cons ⟨_, rfl, ho21_5⟩ (.cons ⟨_, rfl, ho21_6⟩ (.cons ⟨_, rfl⟩ (.cons ⟨_, rfl⟩ (.cons ⟨_, rfl⟩ (.cons ⟨_, rfl⟩ .nil)))))))))) : KdsL [K2, K2, K2, KF, KF, KF, KF, KI, KI, .bool, KI] [.int .i32 v21_0, .int .i32 v21_1, .int .i32 v21_2, .flt .f32 v21_3, .flt .f32 v21_4, .flt .f32 v21_5, .flt .f32 v21_6, .int .i64 v21_7, .int .i64 v21_8, .bool (betX [.int .i32 v0, .int .i32 v1, .int .i32 v2, .flt .f32 v3, .flt .f32 v4, .flt .f32 v5, .flt .f32 v6, .int .i64 v7, .int .i64 v8] [.int .i32 v21_0, .int .i32 v21_1, .int .i32 v21_2, .flt .f32 v21_3, .flt .f32 v21_4, .flt .f32 v21_5, .flt .f32 v21_6, .int .i64 v21_7, .int .i64 v21_8]), .int .i64 (ms.length : Int)])
  refine run_mc (φ := φ0) (pm := pmR 3 [(.ia 9 (n1 1) (nI 11), .ptr 2 0), (.call 62 [.agg [n2 2, n2 3, n2 4, nF 5, nF 6, nF 7, nF 8, nI 9, nI 10], .agg [n2 14, n2 15, n2 16, nF 17, nF 18, nF 19, nF 20, nI 21, nI 22]], nB 23), (.len (n1 1), nI 24)] 0) 20 (ws := [⟨lm, 0, [nF 0, n1 1], false⟩, ⟨p4, 0, [n2 2, n2 3, n2 4, nF 5, nF 6, nF 7, nF 8, nI 9, nI 10], false⟩, ⟨lS21, (p * 9), [n2 14, n2 15, n2 16, nF 17, nF 18, nF 19, nF 20, nI 21, nI 22], false⟩]) (env := [(34, n1 1), (35, nI 11), (30, .agg [n2 2, n2 3, n2 4, nF 5, nF 6, nF 7, nF 8, nI 9, nI 10]), (29, nB 12), (0, .ptr 0 0), (5, nI 11), (3, .ptr 1 0), (6, nB 12)]) q24 (.cons (wR r19 q24) (.cons (wR r6 q24) (.cons (win_elem hr gS21 hlt21 rfl (by rw [hm21]; exact (dL q24))) .nil))) (sepOk_ro rfl) (.cons (rule_iaS (k := p) (dE q24) eS21 (dE q24) hlt21 rfl) (.cons (rule_call (args := [.agg [.int .i32 v0, .int .i32 v1, .int .i32 v2, .flt .f32 v3, .flt .f32 v4, .flt .f32 v5, .flt .f32 v6, .int .i64 v7, .int .i64 v8], .agg [.int .i32 v21_0, .int .i32 v21_1, .int .i32 v21_2, .flt .f32 v21_3, .flt .f32 v21_4, .flt .f32 v21_5, .flt .f32 v21_6, .int .i64 v21_7, .int .i64 v21_8]]) (dL q24) (dE q24) (fun H9 hk => k_BetterMark v0 v1 v2 v3 v4 v5 v6 v7 v8 o3 o4 o5 o6 v21_0 v21_1 v21_2 v21_3 v21_4 v21_5 v21_6 v21_7 v21_8 ho21_3 ho21_4 ho21_5 ho21_6 H9)) (.cons (⟨_, _, (dE q24), (dE q24), slLen (s20.toL)⟩) .nil))) (eC q24 (.cons b10 (.cons b11 (.cons b12 (.cons b13 (.cons b14 (.cons b15 (.cons e5 (.cons b16 .nil))))))))) tb_ok ap_ok ?_
  refine all4 (by kernel_rfl) ?_ ?_ ?_ ?_
  ·
   intro vs ls H25 E25 st hE
   have f26 : (betX [.int .i32 v0, .int .i32 v1, .int .i32 v2, .flt .f32 v3, .flt .f32 v4, .flt .f32 v5, .flt .f32 v6, .int .i64 v7, .int .i64 v8] [.int .i32 v21_0, .int .i32 v21_1, .int .i32 v21_2, .flt .f32 v21_3, .flt .f32 v21_4, .flt .f32 v21_5, .flt .f32 v21_6, .int .i64 v21_7, .int .i64 v21_8]) = true := bf st 0
   have f27 : fd = true := bf st 1
   have hpl : p < ms.length := by rw [← hp]; exact fnd_lt (hfd.trans f27)
   have b28 := eo st hE 46 (.ptr lS21 ((p * 9) + 0))
   have b29 := eo st hE 45 (.agg [.int .i32 v0, .int .i32 v1, .int .i32 v2, .flt .f32 v3, .flt .f32 v4, .flt .f32 v5, .flt .f32 v6, .int .i64 v7, .int .i64 v8])
   have b30 := eo st hE 0 (.ptr lm 0)
   have g31 : Grew H2 H25 := (gk st)
   have g32 : Only2 (PT lm) S H H25 := g18.grewR g31
   have r33 := g31.at r19
   have s36 := s20.grew g31
   clear st hE vs ls
   refine res_storeSFK (d := none) (n := 9) (x := .tmp 46) (y := .tmp 45) (by kernel_rfl) (S := S) (ms := ms) (k := p) (m' := [.int .i32 v0, .int .i32 v1, .int .i32 v2, .flt .f32 v3, .flt .f32 v4, .flt .f32 v5, .flt .f32 v6, .int .i64 v7, .int .i64 v8]) (s36) eS21 b28 hlt21 hr.len (by show AV.cells (E25 45) = _; rw [b29]; rfl) rfl rfl rfl ?_
   intro H37 s37 oo37
   have hln37 : (ms.set p [.int .i32 v0, .int .i32 v1, .int .i32 v2, .flt .f32 v3, .flt .f32 v4, .flt .f32 v5, .flt .f32 v6, .int .i64 v7, .int .i64 v8]).length = ms.length := by simp
   have g38 : Only2 (PT lm) S H H37 := g32.trans oo37
   have r39 := oo37.at r33 (by assumption)
   refine run_mc (φ := φ0) (pm := pmR 1 [] 0) 20 (ws := [⟨lm, 0, [nF 0, n1 1], false⟩]) (env := [(45, .agg [n2 2, n2 3, n2 4, nF 5, nF 6, nF 7, nF 8, nI 9, nI 10]), (0, .ptr 0 0)]) q24 (.cons (wR r39 q24) .nil) (sepOk_ro rfl) .nil (eC q24 (.cons (put_no b29) (.cons (put_no b30) .nil))) tb_ok ap_ok ?_
   refine all1 (by kernel_rfl) ?_
   intro vs ls H41 E41 st hE
   have g9 : Only2 (PT lm) S H H41 := (g38.grewR (gk st))
   have q9 : putOk ms [.int .i32 v0, .int .i32 v1, .int .i32 v2, .flt .f32 v3, .flt .f32 v4, .flt .f32 v5, .flt .f32 v6, .int .i64 v7, .int .i64 v8] = true := by
    show (fnd ms v0 v1 v2 || !decide ((ms.length : Int) = 200)) = _
    rw [hfd, f27]
    rfl
   have l9 : putL ms [.int .i32 v0, .int .i32 v1, .int .i32 v2, .flt .f32 v3, .flt .f32 v4, .flt .f32 v5, .flt .f32 v6, .int .i64 v7, .int .i64 v8] = (ms.set p [.int .i32 v0, .int .i32 v1, .int .i32 v2, .flt .f32 v3, .flt .f32 v4, .flt .f32 v5, .flt .f32 v6, .int .i64 v7, .int .i64 v8]) := by
    show (if fnd ms v0 v1 v2 = true then (if betX [.int .i32 v0, .int .i32 v1, .int .i32 v2, .flt .f32 v3, .flt .f32 v4, .flt .f32 v5, .flt .f32 v6, .int .i64 v7, .int .i64 v8] (ms.getD (lin ms v0 v1 v2) []) = true then ms.set (lin ms v0 v1 v2) [.int .i32 v0, .int .i32 v1, .int .i32 v2, .flt .f32 v3, .flt .f32 v4, .flt .f32 v5, .flt .f32 v6, .int .i64 v7, .int .i64 v8] else ms) else ms.take (lin ms v0 v1 v2) ++ [[.int .i32 v0, .int .i32 v1, .int .i32 v2, .flt .f32 v3, .flt .f32 v4, .flt .f32 v5, .flt .f32 v6, .int .i64 v7, .int .i64 v8]] ++ ms.drop (lin ms v0 v1 v2)) = _
    rw [hfd, hp, f27]
    rw [he21, if_pos rfl, if_pos f26]
   have r9 := (gk st).at r39
   have s9 := s37.grew (gk st)
   exact res_ex (by kernel_rfl) (end_same st.inn hE (.inr rfl) (a := .bool true) (by kernel_rfl) g9.next ⟨g9, by rw [q9], fun _ => ⟨_, r9, by rw [l9]; exact s9, ⟨fun l h => .inr h⟩⟩⟩)
  ·
   intro vs ls H42 E42 st hE
   have f43 : (betX [.int .i32 v0, .int .i32 v1, .int .i32 v2, .flt .f32 v3, .flt .f32 v4, .flt .f32 v5, .flt .f32 v6, .int .i64 v7, .int .i64 v8] [.int .i32 v21_0, .int .i32 v21_1, .int .i32 v21_2, .flt .f32 v21_3, .flt .f32 v21_4, .flt .f32 v21_5, .flt .f32 v21_6, .int .i64 v21_7, .int .i64 v21_8]) = false := bf st 0
   have f44 : fd = true := bf st 1
   have hpl : p < ms.length := by rw [← hp]; exact fnd_lt (hfd.trans f44)
   have g9 : Only2 (PT lm) S H H42 := (g18.grewR (gk st))
   have q9 : putOk ms [.int .i32 v0, .int .i32 v1, .int .i32 v2, .flt .f32 v3, .flt .f32 v4, .flt .f32 v5, .flt .f32 v6, .int .i64 v7, .int .i64 v8] = true := by
    show (fnd ms v0 v1 v2 || !decide ((ms.length : Int) = 200)) = _
    rw [hfd, f44]
    rfl
   have l9 : putL ms [.int .i32 v0, .int .i32 v1, .int .i32 v2, .flt .f32 v3, .flt .f32 v4, .flt .f32 v5, .flt .f32 v6, .int .i64 v7, .int .i64 v8] = ms := by
    show (if fnd ms v0 v1 v2 = true then (if betX [.int .i32 v0, .int .i32 v1, .int .i32 v2, .flt .f32 v3, .flt .f32 v4, .flt .f32 v5, .flt .f32 v6, .int .i64 v7, .int .i64 v8] (ms.getD (lin ms v0 v1 v2) []) = true then ms.set (lin ms v0 v1 v2) [.int .i32 v0, .int .i32 v1, .int .i32 v2, .flt .f32 v3, .flt .f32 v4, .flt .f32 v5, .flt .f32 v6, .int .i64 v7, .int .i64 v8] else ms) else ms.take (lin ms v0 v1 v2) ++ [[.int .i32 v0, .int .i32 v1, .int .i32 v2, .flt .f32 v3, .flt .f32 v4, .flt .f32 v5, .flt .f32 v6, .int .i64 v7, .int .i64 v8]] ++ ms.drop (lin ms v0 v1 v2)) = _
    rw [hfd, hp, f44]
    rw [he21, if_pos rfl, if_neg (by rw [f43]; decide)]
   have r9 := (gk st).at r19
   have s9 := s20.grew (gk st)
   exact res_ex (by kernel_rfl) (end_same st.inn hE (.inr rfl) (a := .bool true) (by kernel_rfl) g9.next ⟨g9, by rw [q9], fun _ => ⟨_, r9, by rw [l9]; exact s9, ⟨fun l h => .inr h⟩⟩⟩)
  ·
   intro vs ls H45 E45 st hE
   have f46 : (ms.length : Int) = 200 := dt st 0
   have f47 : fd = false := bf st 1
   have g9 : Only2 (PT lm) S H H45 := (g18.grewR (gk st))
   have q9 : putOk ms [.int .i32 v0, .int .i32 v1, .int .i32 v2, .flt .f32 v3, .flt .f32 v4, .flt .f32 v5, .flt .f32 v6, .int .i64 v7, .int .i64 v8] = false := by
    show (fnd ms v0 v1 v2 || !decide ((ms.length : Int) = 200)) = _
    rw [hfd, f47]
    simp [f46]
   exact res_ex (by kernel_rfl) (end_same st.inn hE (.inr rfl) (a := .bool false) (by kernel_rfl) g9.next ⟨g9, by rw [q9], fun h => by rw [q9] at h; cases h⟩)
  ·
   intro vs ls H48 E48 st hE
   have f49 : ¬ ((ms.length : Int) = 200) := df st 0
   have f50 : fd = false := bf st 1
   obtain ⟨p51, e52, r53, n54⟩ := sl_of st.inn hE 23 3 1 1 9 (by kernel_rfl) (ds := [.int .i32 v0, .int .i32 v1, .int .i32 v2, .flt .f32 v3, .flt .f32 v4, .flt .f32 v5, .flt .f32 v6, .int .i64 v7, .int .i64 v8]) (by kernel_rfl)
   have op51 : H.next ≤ p51 := Nat.le_trans g18.next (n54 (Nat.le_of_ble_eq_true rfl))
   have ne55 := apn r19 (n54 (Nat.le_of_ble_eq_true rfl))
   have ne56 := apn r6 (n54 (Nat.le_of_ble_eq_true rfl))
   have ne57 := apn gS21 (n54 (Nat.le_of_ble_eq_true rfl))
   have ne58 : ApartL (S) p51 := s20.apart_new (n54 (Nat.le_of_ble_eq_true rfl))
   have b59 := eo st hE 20 S
   have b60 := eo st hE 21 (.int .i64 (p : Int))
   have b61 := eo st hE 16 (.ptr lm 0)
   have b62 := eo st hE 0 (.ptr lm 0)
   have g63 : Grew H2 H48 := (gk st)
   have g64 : Only2 (PT lm) S H H48 := g18.grewR g63
   have r65 := g63.at r19
   have s68 := s20.grew g63
   clear st hE vs ls
   refine res_kidF (d := (some 24)) (f := 63) (args := [.tmp 20, .tmp 21, .tmp 23]) (by kernel_rfl) (R := fun z H' => SlF H' 9 (ms.take p ++ [[.int .i32 v0, .int .i32 v1, .int .i32 v2, .flt .f32 v3, .flt .f32 v4, .flt .f32 v5, .flt .f32 v6, .int .i64 v7, .int .i64 v8]] ++ ms.drop p) z ∧ FromS H48.next (S) z ∧ OnlyS (S) H48 H') ?_ ?_
   ·
    show ACalls _ _ [E48 20, E48 21, E48 23] _ _
    rw [b59, b60, e52]
    exact k_Insert H48 ms hr hmx (S) s68 p (by omega) [.int .i32 v0, .int .i32 v1, .int .i32 v2, .flt .f32 v3, .flt .f32 v4, .flt .f32 v5, .flt .f32 v6, .int .i64 v7, .int .i64 v8] (.cons ⟨_, rfl⟩ (.cons ⟨_, rfl⟩ (.cons ⟨_, rfl⟩ (.cons ⟨_, rfl, o3⟩ (.cons ⟨_, rfl, o4⟩ (.cons ⟨_, rfl, o5⟩ (.cons ⟨_, rfl, o6⟩ (.cons ⟨_, rfl⟩ (.cons ⟨_, rfl⟩ .nil))))))))) p51 r53 (by assumption)
   rintro S69 H70 ⟨sS69, fS69, oS69⟩
   have g71 : Only2 (PT lm) S H H70 := g64.trans oS69
   have ne72 : ApartL (S69) lm := fS69.apartL (H48.lt_of_get r65) (by assumption)
   have ne73 : ApartL (S69) p51 := fS69.apartL (H48.lt_of_get r53) (by assumption)
   have r74 := oS69.at r65 (by assumption)
   have r75 := oS69.at r53 (by assumption)
   have q76 := q24.app (.cons sS69.one .nil : KdsL [.one] [S69])
   refine run_mc (φ := φ0) (pm := pmR 1 [] 0) 20 (ws := [⟨p51, 0, [n2 2, n2 3, n2 4, nF 5, nF 6, nF 7, nF 8, nI 9, nI 10], false⟩, ⟨lm, 0, [nF 0, n1 1], true⟩]) (env := [(20, n1 1), (21, nI 11), (23, .sl 0 0 1 1 9), (16, .ptr 1 0), (0, .ptr 1 0), (24, n1 25)]) q76 (.cons (wR r75 q76) (.cons (wO r74 q76) .nil)) (sepD (by repeat (first | exact .nil | refine .cons (by first | assumption | exact Apart.symm (by assumption)) ?_))) .nil (eC q76 (.cons (put_ne rfl b59) (.cons (put_ne rfl b60) (.cons (put_ne rfl e52) (.cons (put_ne rfl b61) (.cons (put_ne rfl b62) (.cons put_same .nil))))))) tb_ok ap_ok ?_
   refine all1 (by kernel_rfl) ?_
   intro vs ls H77 E77 st hE
   have g9 : Only2 (PT lm) S H H77 := (only2_own g71 (st.inn.kept) ⟨(.inl rfl), trivial⟩)
   have q9 : putOk ms [.int .i32 v0, .int .i32 v1, .int .i32 v2, .flt .f32 v3, .flt .f32 v4, .flt .f32 v5, .flt .f32 v6, .int .i64 v7, .int .i64 v8] = true := by
    show (fnd ms v0 v1 v2 || !decide ((ms.length : Int) = 200)) = _
    rw [hfd, f50]
    simp [f49]
   have l9 : putL ms [.int .i32 v0, .int .i32 v1, .int .i32 v2, .flt .f32 v3, .flt .f32 v4, .flt .f32 v5, .flt .f32 v6, .int .i64 v7, .int .i64 v8] = (ms.take p ++ [[.int .i32 v0, .int .i32 v1, .int .i32 v2, .flt .f32 v3, .flt .f32 v4, .flt .f32 v5, .flt .f32 v6, .int .i64 v7, .int .i64 v8]] ++ ms.drop p) := by
    show (if fnd ms v0 v1 v2 = true then (if betX [.int .i32 v0, .int .i32 v1, .int .i32 v2, .flt .f32 v3, .flt .f32 v4, .flt .f32 v5, .flt .f32 v6, .int .i64 v7, .int .i64 v8] (ms.getD (lin ms v0 v1 v2) []) = true then ms.set (lin ms v0 v1 v2) [.int .i32 v0, .int .i32 v1, .int .i32 v2, .flt .f32 v3, .flt .f32 v4, .flt .f32 v5, .flt .f32 v6, .int .i64 v7, .int .i64 v8] else ms) else ms.take (lin ms v0 v1 v2) ++ [[.int .i32 v0, .int .i32 v1, .int .i32 v2, .flt .f32 v3, .flt .f32 v4, .flt .f32 v5, .flt .f32 v6, .int .i64 v7, .int .i64 v8]] ++ ms.drop (lin ms v0 v1 v2)) = _
    rw [hfd, hp, f50]
    rw [if_neg (by decide)]
   have r9 : H77.get lm = some (.row [.flt .f32 x, S69] true) := row_whole st.inn 1 (l := lm) (b := 0) rfl (by kernel_rfl)
   have s9 := (sS69.keep st.inn.kept ⟨by assumption, trivial⟩)
   exact res_ex (by kernel_rfl) (end_same st.inn hE (.inr rfl) (a := .bool true) (by kernel_rfl) g9.next ⟨g9, by rw [q9], fun _ => ⟨_, r9, by rw [l9]; exact s9, (fS69.mono g64.next)⟩⟩)
 ·
  intro vs ls H78 E78 st hE
  have f79 : (ms.length : Int) = 200 := dt st 0
  have f80 : fd = false := bf st 1
  have g9 : Only2 (PT lm) S H H78 := ((Only2.refl _ _ _).grewR (gk st))
  have q9 : putOk ms [.int .i32 v0, .int .i32 v1, .int .i32 v2, .flt .f32 v3, .flt .f32 v4, .flt .f32 v5, .flt .f32 v6, .int .i64 v7, .int .i64 v8] = false := by
   show (fnd ms v0 v1 v2 || !decide ((ms.length : Int) = 200)) = _
   rw [hfd, f80]
   simp [f79]
  exact res_ex (by kernel_rfl) (end_same st.inn hE (.inr rfl) (a := .bool false) (by kernel_rfl) g9.next ⟨g9, by rw [q9], fun h => by rw [q9] at h; cases h⟩)
 ·
  intro vs ls H81 E81 st hE
  have f82 : ¬ ((ms.length : Int) = 200) := df st 0
  have f83 : fd = false := bf st 1
  obtain ⟨p84, e85, r86, n87⟩ := sl_of st.inn hE 23 2 1 1 9 (by kernel_rfl) (ds := [.int .i32 v0, .int .i32 v1, .int .i32 v2, .flt .f32 v3, .flt .f32 v4, .flt .f32 v5, .flt .f32 v6, .int .i64 v7, .int .i64 v8]) (by kernel_rfl)
  have op84 : H.next ≤ p84 := Nat.le_trans (Nat.le_refl _) (n87 (Nat.le_of_ble_eq_true rfl))
  have ne88 := apn hlm (n87 (Nat.le_of_ble_eq_true rfl))
  have ne89 : ApartL (S) p84 := hS.apart_new (n87 (Nat.le_of_ble_eq_true rfl))
  have b90 := eo st hE 20 S
  have b91 := eo st hE 21 (.int .i64 (p : Int))
  have b92 := eo st hE 16 (.ptr lm 0)
  have b93 := eo st hE 0 (.ptr lm 0)
  have g94 : Grew H H81 := (gk st)
  have g95 : Only2 (PT lm) S H H81 := (Only2.refl _ _ _).grewR g94
  have r96 := g94.at hlm
  have s97 := hS.grew g94
  clear st hE vs ls
  refine res_kidF (d := (some 24)) (f := 63) (args := [.tmp 20, .tmp 21, .tmp 23]) (by kernel_rfl) (R := fun z H' => SlF H' 9 (ms.take p ++ [[.int .i32 v0, .int .i32 v1, .int .i32 v2, .flt .f32 v3, .flt .f32 v4, .flt .f32 v5, .flt .f32 v6, .int .i64 v7, .int .i64 v8]] ++ ms.drop p) z ∧ FromS H81.next (S) z ∧ OnlyS (S) H81 H') ?_ ?_
  ·
   show ACalls _ _ [E81 20, E81 21, E81 23] _ _
   rw [b90, b91, e85]
   exact k_Insert H81 ms hr hmx (S) s97 p (by omega) [.int .i32 v0, .int .i32 v1, .int .i32 v2, .flt .f32 v3, .flt .f32 v4, .flt .f32 v5, .flt .f32 v6, .int .i64 v7, .int .i64 v8] (.cons ⟨_, rfl⟩ (.cons ⟨_, rfl⟩ (.cons ⟨_, rfl⟩ (.cons ⟨_, rfl, o3⟩ (.cons ⟨_, rfl, o4⟩ (.cons ⟨_, rfl, o5⟩ (.cons ⟨_, rfl, o6⟩ (.cons ⟨_, rfl⟩ (.cons ⟨_, rfl⟩ .nil))))))))) p84 r86 (by assumption)
  rintro S98 H99 ⟨sS98, fS98, oS98⟩
  have g100 : Only2 (PT lm) S H H99 := g95.trans oS98
  have ne101 : ApartL (S98) lm := fS98.apartL (H81.lt_of_get r96) (by assumption)
  have ne102 : ApartL (S98) p84 := fS98.apartL (H81.lt_of_get r86) (by assumption)
  have r103 := oS98.at r96 (by assumption)
  have r104 := oS98.at r86 (by assumption)
  have q105 := q1.app (.cons sS98.one .nil : KdsL [.one] [S98])
  refine run_mc (φ := φ0) (pm := pmR 1 [] 0) 20 (ws := [⟨p84, 0, [n2 2, n2 3, n2 4, nF 5, nF 6, nF 7, nF 8, nI 9, nI 10], false⟩, ⟨lm, 0, [nF 0, n1 1], true⟩]) (env := [(20, n1 1), (21, nI 11), (23, .sl 0 0 1 1 9), (16, .ptr 1 0), (0, .ptr 1 0), (24, n1 14)]) q105 (.cons (wR r104 q105) (.cons (wO r103 q105) .nil)) (sepD (by repeat (first | exact .nil | refine .cons (by first | assumption | exact Apart.symm (by assumption)) ?_))) .nil (eC q105 (.cons (put_ne rfl b90) (.cons (put_ne rfl b91) (.cons (put_ne rfl e85) (.cons (put_ne rfl b92) (.cons (put_ne rfl b93) (.cons put_same .nil))))))) tb_ok ap_ok ?_
  refine all1 (by kernel_rfl) ?_
  intro vs ls H106 E106 st hE
  have g9 : Only2 (PT lm) S H H106 := (only2_own g100 (st.inn.kept) ⟨(.inl rfl), trivial⟩)
  have q9 : putOk ms [.int .i32 v0, .int .i32 v1, .int .i32 v2, .flt .f32 v3, .flt .f32 v4, .flt .f32 v5, .flt .f32 v6, .int .i64 v7, .int .i64 v8] = true := by
   show (fnd ms v0 v1 v2 || !decide ((ms.length : Int) = 200)) = _
   rw [hfd, f83]
   simp [f82]
  have l9 : putL ms [.int .i32 v0, .int .i32 v1, .int .i32 v2, .flt .f32 v3, .flt .f32 v4, .flt .f32 v5, .flt .f32 v6, .int .i64 v7, .int .i64 v8] = (ms.take p ++ [[.int .i32 v0, .int .i32 v1, .int .i32 v2, .flt .f32 v3, .flt .f32 v4, .flt .f32 v5, .flt .f32 v6, .int .i64 v7, .int .i64 v8]] ++ ms.drop p) := by
   show (if fnd ms v0 v1 v2 = true then (if betX [.int .i32 v0, .int .i32 v1, .int .i32 v2, .flt .f32 v3, .flt .f32 v4, .flt .f32 v5, .flt .f32 v6, .int .i64 v7, .int .i64 v8] (ms.getD (lin ms v0 v1 v2) []) = true then ms.set (lin ms v0 v1 v2) [.int .i32 v0, .int .i32 v1, .int .i32 v2, .flt .f32 v3, .flt .f32 v4, .flt .f32 v5, .flt .f32 v6, .int .i64 v7, .int .i64 v8] else ms) else ms.take (lin ms v0 v1 v2) ++ [[.int .i32 v0, .int .i32 v1, .int .i32 v2, .flt .f32 v3, .flt .f32 v4, .flt .f32 v5, .flt .f32 v6, .int .i64 v7, .int .i64 v8]] ++ ms.drop (lin ms v0 v1 v2)) = _
   rw [hfd, hp, f83]
   rw [if_neg (by decide)]
  have r9 : H106.get lm = some (.row [.flt .f32 x, S98] true) := row_whole st.inn 1 (l := lm) (b := 0) rfl (by kernel_rfl)
  have s9 := (sS98.keep st.inn.kept ⟨by assumption, trivial⟩)
  exact res_ex (by kernel_rfl) (end_same st.inn hE (.inr rfl) (a := .bool true) (by kernel_rfl) g9.next ⟨g9, by rw [q9], fun _ => ⟨_, r9, by rw [l9]; exact s9, (fS98.mono g95.next)⟩⟩)
