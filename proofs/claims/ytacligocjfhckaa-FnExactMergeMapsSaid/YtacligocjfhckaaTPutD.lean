/- Contracts: a mark put into a list, by the reference. -/
import Derived.Test.YtacligocjfhckaaTPutC
set_option linter.unusedVariables false
set_option linter.unusedSimpArgs false
namespace Go.Proofs.Ytacligocjfhckaa
open Go.Ab
set_option maxRecDepth 100000
set_option maxHeartbeats 1000000
attribute [local irreducible] Res
theorem part_recs {ks : List Kd} {ms : List (List AV)} (h : Recs ks ms) {a b : Nat} : Recs ks ((ms.take b).drop a) := fun m hm => h m (List.mem_of_mem_take (List.mem_of_mem_drop hm))
theorem parts_set {ms : List (List AV)} {m : List AV} {p : Nat} (h : p < ms.length) : (((ms.take p).drop 0 ++ [m]) ++ (ms.take ms.length).drop (p + 1)) = ms.set p m := by
 rw [List.set_eq_take_append_cons_drop, if_pos h]
 simp
theorem parts_all (ms : List (List AV)) (p : Nat) : ((ms.take p).drop 0 ++ (ms.take ms.length).drop p) = ms := by simp
theorem parts_ins (ms : List (List AV)) (m : List AV) (p : Nat) : (((ms.take p).drop 0 ++ [m]) ++ (ms.take ms.length).drop p) = ms.take p ++ [m] ++ ms.drop p := by simp
theorem k_l05Find' (H : AHeap) (ms : List (List AV)) (hr : Recs KM ms) (S : AV) (hS : SlL H 9 ms S) (a b c : Int) (p : Nat) (fd : Bool) (hp : lin ms a b c = p) (hfd : fnd ms a b c = fd) (hmax : ms.length < 2 ^ 40) : APure Try.prog 53 [S, .agg [.int .i32 a, .int .i32 b, .int .i32 c]] H (.tuple [.int .i64 (p : Int), .bool fd]) := by
 subst hp
 subst hfd
 exact k_l05Find H ms hr S hS a b c hmax
theorem k_l05BetterX (v0 v1 v2 : Int) (v3 v4 v5 v6 : Option Nat) (v7 v8 : Int) (o3 : fOk .f32 v3) (o4 : fOk .f32 v4) (o5 : fOk .f32 v5) (o6 : fOk .f32 v6) (u0 u1 u2 : Int) (u3 u4 u5 u6 : Option Nat) (u7 u8 : Int) (p3 : fOk .f32 u3) (p4 : fOk .f32 u4) (p5 : fOk .f32 u5) (p6 : fOk .f32 u6) (h : markX [.int .i32 v0, .int .i32 v1, .int .i32 v2, .flt .f32 v3, .flt .f32 v4, .flt .f32 v5, .flt .f32 v6, .int .i64 v7, .int .i64 v8] = true) (h' : markX [.int .i32 u0, .int .i32 u1, .int .i32 u2, .flt .f32 u3, .flt .f32 u4, .flt .f32 u5, .flt .f32 u6, .int .i64 u7, .int .i64 u8] = true) (H : AHeap) (l off : Nat) (pre post : List AV) (wr : Bool) (hg : H.get l = some (.row (pre ++ ([.int .i32 v0, .int .i32 v1, .int .i32 v2, .flt .f32 v3, .flt .f32 v4, .flt .f32 v5, .flt .f32 v6, .int .i64 v7, .int .i64 v8] ++ post)) wr)) (hp : pre.length = off) (l' off' : Nat) (pre' post' : List AV) (wr' : Bool) (hg' : H.get l' = some (.row (pre' ++ ([.int .i32 u0, .int .i32 u1, .int .i32 u2, .flt .f32 u3, .flt .f32 u4, .flt .f32 u5, .flt .f32 u6, .int .i64 u7, .int .i64 u8] ++ post')) wr')) (hp' : pre'.length = off') : APure Try.prog 54 [.ptr l off, .ptr l' off'] H (.bool (betX [.int .i32 v0, .int .i32 v1, .int .i32 v2, .flt .f32 v3, .flt .f32 v4, .flt .f32 v5, .flt .f32 v6, .int .i64 v7, .int .i64 v8] [.int .i32 u0, .int .i32 u1, .int .i32 u2, .flt .f32 u3, .flt .f32 u4, .flt .f32 u5, .flt .f32 u6, .int .i64 u7, .int .i64 u8])) := by
 obtain ⟨a3, a4, a5⟩ := markX_fin h o3 o4 o5
 obtain ⟨b3, b4, b5⟩ := markX_fin h' p3 p4 p5
 rw [← betW_eq v0 v1 v2 v3 v4 v5 v6 v7 v8 o3 o4 o5 o6 u0 u1 u2 u3 u4 u5 u6 u7 u8 p3 p4 p5 p6 h h']
 exact k_l05Better v0 v1 v2 v3 v4 v5 v6 v7 v8 o3 o4 o5 o6 u0 u1 u2 u3 u4 u5 u6 u7 u8 p3 p4 p5 p6 a3 a4 a5 b3 b4 b5 H l off pre post wr hg hp l' off' pre' post' wr' hg' hp'
def tbY : List (Nat × AFun) := tb.filter fun p => !(p.1 == 54)
theorem tbY_ok : TbOk Try.prog tbY := fun f a h => tb_ok f a (List.mem_filter.1 h).1
def pmY (fl : Nat) (ru : List (RK × SV)) (un : Nat) : Pm := ⟨fl, ru, tbY, ap, un⟩
theorem k_l05Put (H : AHeap) (ms : List (List AV)) (hr : Recs KM ms) (S : AV) (hS : SlL H 9 ms S) (mxms : ms.length ≤ 1048576) (hmk : ∀ m ∈ ms, markX m = true) (v0 v1 v2 : Int) (v3 v4 v5 v6 : Option Nat) (v7 v8 : Int) (o3 : fOk .f32 v3) (o4 : fOk .f32 v4) (o5 : fOk .f32 v5) (o6 : fOk .f32 v6) (hv : markX [.int .i32 v0, .int .i32 v1, .int .i32 v2, .flt .f32 v3, .flt .f32 v4, .flt .f32 v5, .flt .f32 v6, .int .i64 v7, .int .i64 v8] = true) : ACalls Try.prog 31 [S, .agg [.int .i32 v0, .int .i32 v1, .int .i32 v2, .flt .f32 v3, .flt .f32 v4, .flt .f32 v5, .flt .f32 v6, .int .i64 v7, .int .i64 v8]] H fun r H' => Grew H H' ∧ SlF H' 9 (putL ms [.int .i32 v0, .int .i32 v1, .int .i32 v2, .flt .f32 v3, .flt .f32 v4, .flt .f32 v5, .flt .f32 v6, .int .i64 v7, .int .i64 v8]) r ∧ FreshS H.next r := by
 obtain ⟨p, hp⟩ : ∃ p, lin ms v0 v1 v2 = p := ⟨_, rfl⟩
 obtain ⟨fd, hfd⟩ : ∃ p, fnd ms v0 v1 v2 = p := ⟨_, rfl⟩
 have hpl0 : p ≤ ms.length := by rw [← hp]; exact lin_le _ _ _ _
 refine res_start h_spec_l05Put (by simp) ?_
 have q1 : KdsL [.one, K2, K2, K2, KF, KF, KF, KF, KI, KI, KI, .bool] [S, .int .i32 v0, .int .i32 v1, .int .i32 v2, .flt .f32 v3, .flt .f32 v4, .flt .f32 v5, .flt .f32 v6, .int .i64 v7, .int .i64 v8, .int .i64 (p : Int), .bool fd] := .cons (slOne hS) (.cons ⟨_, rfl⟩ (.cons ⟨_, rfl⟩ (.cons ⟨_, rfl⟩ (.cons ⟨_, rfl, o3⟩ (.cons ⟨_, rfl, o4⟩ (.cons ⟨_, rfl, o5⟩ (.cons ⟨_, rfl, o6⟩ (.cons ⟨_, rfl⟩ (.cons ⟨_, rfl⟩ (.cons ⟨_, rfl⟩ (.cons ⟨_, rfl⟩ .nil)))))))))))
 refine run_mc (φ := φ0) (pm := pmY 0 [(.call 53 [n1 0, .agg [n2 1, n2 2, n2 3]], .tup [nI 10, nB 11])] 0) 20 (ws := []) (env := [(0, n1 0), (1, .agg [n2 1, n2 2, n2 3, nF 4, nF 5, nF 6, nF 7, nI 8, nI 9])]) q1 .nil (sepOk_ro rfl) (.cons (rule_call (args := [S, .agg [.int .i32 v0, .int .i32 v1, .int .i32 v2]]) (dL q1) (dE q1) (fun H9 hk => k_l05Find' H9 ms hr S (hS.grew (Grew.trans (Grew.refl _) (hk.grew (Nat.le_refl _)))) v0 v1 v2 p fd hp hfd (mx40 mxms))) .nil) (eC q1 (.cons (t := 0) rfl (.cons (t := 1) rfl .nil))) tbY_ok ap_ok ?_
 refine all1 (by kernel_rfl) ?_
 intro vs ls H2 E2 st hE
 obtain ⟨p3, e4, r5, n6⟩ := sl_of st.inn hE 15 1 0 0 9 (by kernel_rfl) (ds := []) (by kernel_rfl)
 have op3 : H.next ≤ p3 := Nat.le_trans (Nat.le_refl _) (n6 (Nat.le_of_ble_eq_true rfl))
 obtain ⟨p7, e8, r9, n10⟩ := ptr_of st.inn hE 3 0 (by kernel_rfl) (ds := [.int .i32 v0, .int .i32 v1, .int .i32 v2, .flt .f32 v3, .flt .f32 v4, .flt .f32 v5, .flt .f32 v6, .int .i64 v7, .int .i64 v8]) (by kernel_rfl)
 have op7 : H.next ≤ p7 := Nat.le_trans (Nat.le_refl _) (n10 (Nat.le_of_ble_eq_true rfl))
 have ne11 : Apart p3 p7 := ⟨row_ne st.inn hE 15 3 1 0 (v := .sl 1 0 0 0 9) (v' := .ptr 0 0) (by kernel_rfl) (by kernel_rfl) rfl rfl (cs := []) (by kernel_rfl) (by decide) e4 e8 rfl rfl⟩
 have b12 := eo st hE 16 S
 have b13 := eo st hE 17 (.int .i64 (p : Int))
 have b14 := eo st hE 6 (.bool fd)
 have b15 := eo st hE 0 S
 have b16 := eo st hE 5 (.int .i64 (p : Int))
 have g17 : Grew H H2 := (gk st)
 have g18 : Grew H H2 := Grew.trans (Grew.refl _) g17
 clear st hE vs ls
 obtain ⟨V19, hV19, sV19⟩ := sub_list hr.len hS 0 p (by omega) (by omega)
 have lV19 : ((ms.take p).drop 0).length ≤ ms.length := by rw [List.length_drop, List.length_take]; omega
 refine res_q (d := some 18) (op := .slSl 9 (.tmp 16) none (some (.tmp 17)) none) (r := V19) (by kernel_rfl) rfl (sV19 _ _ 16 none (some (.tmp 17)) b12 (.inl ⟨rfl, rfl⟩) (.inr (congrArg some b13))) ?_
 have q20 := q1.app (.cons hV19.one .nil : KdsL [.one] [V19])
 refine run_mc (φ := φ0) (pm := pmY 2 [] 0) 20 (ws := [⟨p3, 0, [], false⟩, ⟨p7, 0, [n2 1, n2 2, n2 3, nF 4, nF 5, nF 6, nF 7, nI 8, nI 9], false⟩]) (env := [(16, n1 0), (17, nI 10), (15, .sl 0 0 0 0 9), (6, nB 11), (0, n1 0), (5, nI 10), (3, .ptr 1 0), (18, n1 12)]) q20 (.cons (wR r5 q20) (.cons (wR r9 q20) .nil)) (sepOk_ro rfl) .nil (eC q20 (.cons (put_ne rfl b12) (.cons (put_ne rfl b13) (.cons (put_ne rfl e4) (.cons (put_ne rfl b14) (.cons (put_ne rfl b15) (.cons (put_ne rfl b16) (.cons (put_ne rfl e8) (.cons put_same .nil))))))))) tbY_ok ap_ok ?_
 refine all1 (by kernel_rfl) ?_
 intro vs ls H21 E21 st hE
 have b22 := eo st hE 15 (.slice p3 0 0 0 9)
 have b23 := eo st hE 18 V19
 have b24 := eo st hE 6 (.bool fd)
 have b25 := eo st hE 0 S
 have b26 := eo st hE 5 (.int .i64 (p : Int))
 have b27 := eo st hE 3 (.ptr p7 0)
 have g28 : Grew H2 H21 := (gk st)
 have g29 : Grew H H21 := Grew.trans g18 g28
 have r30 := g28.at r5
 have r31 := g28.at r9
 clear st hE vs ls
 have sx34 : SlF H21 9 [] (.slice p3 0 0 0 9) := .sl (by simpa using r30) rfl (Nat.le_refl _)
 refine res_append0 (d := (some 19)) (sz := 9) (bytes := 48) (x := .tmp 15) (y := .tmp 18) (by kernel_rfl) (S := .slice p3 0 0 0 9) (ys := ((ms.take p).drop 0)) (by show E21 15 = _; exact b22) sx34 (.inr ⟨_, rfl⟩) (by show srcCells _ _ (E21 18) = _; rw [b23]; exact hV19.src _ g29) (recs_one (part_recs hr) rfl) (by first | omega | (simp only [List.length_append, List.length_cons, List.length_nil, List.length_drop, List.length_take]; omega)) ?_
 intro S32 H33 sS32 fS32 oS32
 have ne35 : ApartL (S32) p7 := fS32.apartL (H21.lt_of_get r31) (ApartL.of (by first | assumption | exact Apart.symm (by assumption)))
 have fr36 : FreshS H.next (S32) := fS32.fresh (FreshS.of_le op3) g29.next
 have g37 : Grew H H33 := Grew.trans g29 oS32
 have r39 := oS32.at r31
 have q40 := q20.app (.cons sS32.one .nil : KdsL [.one] [S32])
 refine run_mc (φ := φ0) (pm := pmY 1 [] 0) 20 (ws := [⟨p7, 0, [n2 1, n2 2, n2 3, nF 4, nF 5, nF 6, nF 7, nI 8, nI 9], false⟩]) (env := [(18, n1 12), (6, nB 11), (0, n1 0), (5, nI 10), (3, .ptr 0 0), (19, n1 13)]) q40 (.cons (wR r39 q40) .nil) (sepOk_ro rfl) .nil (eC q40 (.cons (put_ne rfl b23) (.cons (put_ne rfl b24) (.cons (put_ne rfl b25) (.cons (put_ne rfl b26) (.cons (put_ne rfl b27) (.cons put_same .nil))))))) tbY_ok ap_ok ?_
 refine all2 (by kernel_rfl) ?_ ?_
 ·
  intro vs ls H41 E41 st hE
  have f42 : fd = true := bf st 0
  have hpl : p < ms.length := by rw [← hp]; exact fnd_lt (hfd.trans f42)
  have b43 := eo st hE 21 S
  have b44 := eo st hE 22 (.int .i64 (p : Int))
  have b45 := eo st hE 3 (.ptr p7 0)
  have b46 := eo st hE 7 S32
  have b47 := eo st hE 0 S
  have b48 := eo st hE 5 (.int .i64 (p : Int))
  have g49 : Grew H33 H41 := (gk st)
  have g50 : Grew H H41 := Grew.trans g37 g49
  have r51 := g49.at r39
  have s52 := sS32.grew g49
  clear st hE vs ls
  have hlt53 : p < ms.length := by omega
  obtain ⟨lS53, cap53, rest53, wr53, eS53, gB53⟩ := hS.isSl hlt53
  have gS53 := g50.at gB53
  have ne54 := apn gB53 op7
  obtain ⟨v53_0, v53_1, v53_2, v53_3, v53_4, v53_5, v53_6, v53_7, v53_8, hm53, ho53_3, ho53_4, ho53_5, ho53_6⟩ := partsMark (hr.get hlt53)
  have he53 : ms.getD p [] = [.int .i32 v53_0, .int .i32 v53_1, .int .i32 v53_2, .flt .f32 v53_3, .flt .f32 v53_4, .flt .f32 v53_5, .flt .f32 v53_6, .int .i64 v53_7, .int .i64 v53_8] := by rw [← hm53, List.getD_eq_getElem?_getD, List.getElem?_eq_getElem hlt53]; rfl
  have q55 := q40.app (.cons ⟨_, rfl⟩ (.cons ⟨_, rfl⟩ (.cons ⟨_, rfl⟩ (.cons ⟨_, rfl, ho53_3⟩ (.cons ⟨_, rfl, ho53_4⟩ (.cons ⟨_, rfl, ho53_5⟩ (.cons ⟨_, rfl, ho53_6⟩ (.cons ⟨_, rfl⟩ (.cons ⟨_, rfl⟩ .nil)))))))) : KdsL [K2, K2, K2, KF, KF, KF, KF, KI, KI] [.int .i32 v53_0, .int .i32 v53_1, .int .i32 v53_2, .flt .f32 v53_3, .flt .f32 v53_4, .flt .f32 v53_5, .flt .f32 v53_6, .int .i64 v53_7, .int .i64 v53_8])
  refine run_mc (φ := φ0) (pm := pmY 2 [(.ia 9 (n1 0) (nI 10), .ptr 1 0)] 0) 20 (ws := [⟨p7, 0, [n2 1, n2 2, n2 3, nF 4, nF 5, nF 6, nF 7, nI 8, nI 9], false⟩, ⟨lS53, (p * 9), [n2 14, n2 15, n2 16, nF 17, nF 18, nF 19, nF 20, nI 21, nI 22], false⟩]) (env := [(21, n1 0), (22, nI 10), (3, .ptr 0 0), (7, n1 13), (0, n1 0), (5, nI 10)]) q55 (.cons (wR r51 q55) (.cons (win_elem hr gS53 hlt53 rfl (by rw [hm53]; exact (dL q55))) .nil)) (sepOk_ro rfl) (.cons (rule_iaS (k := p) (dE q55) eS53 (dE q55) hlt53 rfl) .nil) (eC q55 (.cons b43 (.cons b44 (.cons b45 (.cons b46 (.cons b47 (.cons b48 .nil))))))) tbY_ok ap_ok ?_
  refine all1 (by kernel_rfl) ?_
  intro vs ls H56 E56 st hE
  have b57 := eo st hE 3 (.ptr p7 0)
  have b58 := eo st hE 23 (.ptr lS53 ((p * 9) + 0))
  have b59 := eo st hE 7 S32
  have b60 := eo st hE 0 S
  have b61 := eo st hE 5 (.int .i64 (p : Int))
  have g62 : Grew H41 H56 := (gk st)
  have g63 : Grew H H56 := Grew.trans g50 g62
  have r64 := g62.at r51
  have r65 := g62.at gS53
  have s66 := s52.grew g62
  clear st hE vs ls
  obtain ⟨pre67, post67, es67, el67⟩ := flat_split hr.len hlt53 rest53
  have gz67 := r65
  rw [es67, hm53] at gz67
  refine res_call (d := (some 24)) (f := 54) (args := [.tmp 3, .tmp 23]) (by kernel_rfl) (R := fun z H' => z = .bool (betX [.int .i32 v0, .int .i32 v1, .int .i32 v2, .flt .f32 v3, .flt .f32 v4, .flt .f32 v5, .flt .f32 v6, .int .i64 v7, .int .i64 v8] [.int .i32 v53_0, .int .i32 v53_1, .int .i32 v53_2, .flt .f32 v53_3, .flt .f32 v53_4, .flt .f32 v53_5, .flt .f32 v53_6, .int .i64 v53_7, .int .i64 v53_8]) ∧ H' = H56) ?_ ?_
  ·
   show ACalls _ _ [E56 3, E56 23] _ _
   rw [b57, b58]
   exact k_l05BetterX v0 v1 v2 v3 v4 v5 v6 v7 v8 o3 o4 o5 o6 v53_0 v53_1 v53_2 v53_3 v53_4 v53_5 v53_6 v53_7 v53_8 ho53_3 ho53_4 ho53_5 ho53_6 hv (by rw [← he53]; exact hmk _ (by rw [List.getD_eq_getElem?_getD, List.getElem?_eq_getElem hlt53]; exact List.getElem_mem _)) H56 p7 0 [] [] true (by simpa using r64) rfl lS53 ((p * 9)) pre67 post67 _ gz67 el67
  rintro z H56 ⟨rfl, rfl⟩
  have q68 := q55.app (.cons ⟨_, rfl⟩ .nil : KdsL [.bool] [.bool (betX [.int .i32 v0, .int .i32 v1, .int .i32 v2, .flt .f32 v3, .flt .f32 v4, .flt .f32 v5, .flt .f32 v6, .int .i64 v7, .int .i64 v8] [.int .i32 v53_0, .int .i32 v53_1, .int .i32 v53_2, .flt .f32 v53_3, .flt .f32 v53_4, .flt .f32 v53_5, .flt .f32 v53_6, .int .i64 v53_7, .int .i64 v53_8])])
  refine run_mc (φ := φ0) (pm := pmY 2 [] 0) 20 (ws := [⟨p7, 0, [n2 1, n2 2, n2 3, nF 4, nF 5, nF 6, nF 7, nI 8, nI 9], false⟩, ⟨lS53, (p * 9), [n2 14, n2 15, n2 16, nF 17, nF 18, nF 19, nF 20, nI 21, nI 22], false⟩]) (env := [(3, .ptr 0 0), (23, .ptr 1 0), (7, n1 13), (0, n1 0), (5, nI 10), (24, nB 23)]) q68 (.cons (wR r64 q68) (.cons (win_elem hr r65 hlt53 rfl (by rw [hm53]; exact (dL q68))) .nil)) (sepOk_ro rfl) .nil (eC q68 (.cons (put_ne rfl b57) (.cons (put_ne rfl b58) (.cons (put_ne rfl b59) (.cons (put_ne rfl b60) (.cons (put_ne rfl b61) (.cons put_same .nil))))))) tbY_ok ap_ok ?_
  refine all2 (by kernel_rfl) ?_ ?_
  ·
   intro vs ls H69 E69 st hE
   have f70 : (betX [.int .i32 v0, .int .i32 v1, .int .i32 v2, .flt .f32 v3, .flt .f32 v4, .flt .f32 v5, .flt .f32 v6, .int .i64 v7, .int .i64 v8] [.int .i32 v53_0, .int .i32 v53_1, .int .i32 v53_2, .flt .f32 v53_3, .flt .f32 v53_4, .flt .f32 v53_5, .flt .f32 v53_6, .int .i64 v53_7, .int .i64 v53_8]) = true := bf st 0
   obtain ⟨p71, e72, r73, n74⟩ := sl_of st.inn hE 27 2 1 1 9 (by kernel_rfl) (ds := [.int .i32 v0, .int .i32 v1, .int .i32 v2, .flt .f32 v3, .flt .f32 v4, .flt .f32 v5, .flt .f32 v6, .int .i64 v7, .int .i64 v8]) (by kernel_rfl)
   have op71 : H.next ≤ p71 := Nat.le_trans g63.next (n74 (Nat.le_of_ble_eq_true rfl))
   have ne75 := apn r64 (n74 (Nat.le_of_ble_eq_true rfl))
   have ne76 := apn r65 (n74 (Nat.le_of_ble_eq_true rfl))
   have ne77 : ApartL (S32) p71 := s66.apart_new (n74 (Nat.le_of_ble_eq_true rfl))
   have b78 := eo st hE 25 S32
   have b79 := eo st hE 7 S32
   have b80 := eo st hE 0 S
   have b81 := eo st hE 5 (.int .i64 (p : Int))
   have b82 := eo st hE 3 (.ptr p7 0)
   have g83 : Grew H56 H69 := (gk st)
   have g84 : Grew H H69 := Grew.trans g63 g83
   have r85 := g83.at r64
   have s87 := s66.grew g83
   clear st hE vs ls
   refine res_append (d := (some 28)) (sz := 9) (bytes := 48) (x := .tmp 25) (y := .tmp 27) (by kernel_rfl) (S := S32) (ms := ((ms.take p).drop 0)) (ys := [[.int .i32 v0, .int .i32 v1, .int .i32 v2, .flt .f32 v3, .flt .f32 v4, .flt .f32 v5, .flt .f32 v6, .int .i64 v7, .int .i64 v8]]) (by show E69 25 = _; exact b78) s87 (part_recs hr).len (by show srcCells _ _ (E69 27) = _; rw [e72]; exact src_one r73 rfl) (recs_one (ks := KM) (Recs.one (ks := KM) (.cons ⟨_, rfl⟩ (.cons ⟨_, rfl⟩ (.cons ⟨_, rfl⟩ (.cons ⟨_, rfl, o3⟩ (.cons ⟨_, rfl, o4⟩ (.cons ⟨_, rfl, o5⟩ (.cons ⟨_, rfl, o6⟩ (.cons ⟨_, rfl⟩ (.cons ⟨_, rfl⟩ .nil)))))))))) rfl) (by first | omega | (simp only [List.length_append, List.length_cons, List.length_nil, List.length_drop, List.length_take]; omega)) ?_
   intro S88 H89 sS88 fS88 oS88
   have ne90 : ApartL (S88) p7 := fS88.apartL (H69.lt_of_get r85) (by assumption)
   have ne91 : ApartL (S88) p71 := fS88.apartL (H69.lt_of_get r73) (by assumption)
   have fr92 : FreshS H.next (S88) := fS88.fresh fr36 g84.next
   have g93 : Grew H H89 := OnlyS.own g84 fr36 oS88
   have r94 := oS88.at r85 (by assumption)
   have r95 := oS88.at r73 (by assumption)
   have q96 := q68.app (.cons sS88.one .nil : KdsL [.one] [S88])
   refine run_mc (φ := φ0) (pm := pmY 2 [] 0) 20 (ws := [⟨p7, 0, [n2 1, n2 2, n2 3, nF 4, nF 5, nF 6, nF 7, nI 8, nI 9], false⟩, ⟨p71, 0, [n2 1, n2 2, n2 3, nF 4, nF 5, nF 6, nF 7, nI 8, nI 9], false⟩]) (env := [(25, n1 13), (27, .sl 1 0 1 1 9), (7, n1 13), (0, n1 0), (5, nI 10), (3, .ptr 0 0), (28, n1 24)]) q96 (.cons (wR r94 q96) (.cons (wR r95 q96) .nil)) (sepOk_ro rfl) .nil (eC q96 (.cons (put_ne rfl b78) (.cons (put_ne rfl e72) (.cons (put_ne rfl b79) (.cons (put_ne rfl b80) (.cons (put_ne rfl b81) (.cons (put_ne rfl b82) (.cons put_same .nil)))))))) tbY_ok ap_ok ?_
   refine all1 (by kernel_rfl) ?_
   intro vs ls H97 E97 st hE
   have b98 := eo st hE 30 S
   obtain ⟨w99, hw99⟩ : ∃ z, z = (IntKind.wrap .i64 ((p : Int) + 1)) := ⟨_, rfl⟩
   have b100 : E97 32 = .int .i64 w99 := by rw [hw99]; exact eo st hE 32 _
   have b101 := eo st hE 29 S88
   have b102 := eo st hE 7 S88
   have b103 := eo st hE 0 S
   have b104 := eo st hE 5 (.int .i64 (p : Int))
   have b105 := eo st hE 3 (.ptr p7 0)
   have g106 : Grew H89 H97 := (gk st)
   have g107 : Grew H H97 := Grew.trans g93 g106
   have r108 := g106.at r94
   have s110 := sS88.grew g106
   clear st hE vs ls
   have e111 : E97 32 = .int .i64 (((p + 1) : Nat) : Int) := by rw [b100, hw99]; exact congrArg _ (wrap64 (by omega))
   obtain ⟨V112, hV112, sV112⟩ := sub_list hr.len hS (p + 1) ms.length (by omega) (by omega)
   have lV112 : ((ms.take ms.length).drop (p + 1)).length ≤ ms.length := by rw [List.length_drop, List.length_take]; omega
   refine res_q (d := some 33) (op := .slSl 9 (.tmp 30) (some (.tmp 32)) none none) (r := V112) (by kernel_rfl) rfl (sV112 _ _ 30 (some (.tmp 32)) none b98 (.inr (congrArg some e111)) (.inl ⟨rfl, rfl⟩)) ?_
   have q113 := q96.app (.cons ⟨_, rfl⟩ (.cons hV112.one .nil) : KdsL [KI, .one] [.int .i64 w99, V112])
   refine run_mc (φ := φ0) (pm := pmY 1 [] 0) 20 (ws := [⟨p7, 0, [n2 1, n2 2, n2 3, nF 4, nF 5, nF 6, nF 7, nI 8, nI 9], false⟩]) (env := [(30, n1 0), (32, nI 25), (29, n1 24), (7, n1 24), (0, n1 0), (5, nI 10), (3, .ptr 0 0), (33, n1 26)]) q113 (.cons (wR r108 q113) .nil) (sepOk_ro rfl) .nil (eC q113 (.cons (put_ne rfl b98) (.cons (put_ne rfl b100) (.cons (put_ne rfl b101) (.cons (put_ne rfl b102) (.cons (put_ne rfl b103) (.cons (put_ne rfl b104) (.cons (put_ne rfl b105) (.cons put_same .nil))))))))) tbY_ok ap_ok ?_
   refine all1 (by kernel_rfl) ?_
   intro vs ls H114 E114 st hE
   have b115 := eo st hE 29 S88
   have b116 := eo st hE 33 V112
   have b117 := eo st hE 7 S88
   have b118 := eo st hE 0 S
   have b119 := eo st hE 5 (.int .i64 (p : Int))
   have b120 := eo st hE 3 (.ptr p7 0)
   have g121 : Grew H97 H114 := (gk st)
   have g122 : Grew H H114 := Grew.trans g107 g121
   have r123 := g121.at r108
   have s124 := s110.grew g121
   clear st hE vs ls
   refine res_append (d := (some 34)) (sz := 9) (bytes := 48) (x := .tmp 29) (y := .tmp 33) (by kernel_rfl) (S := S88) (ms := (((ms.take p).drop 0) ++ [[.int .i32 v0, .int .i32 v1, .int .i32 v2, .flt .f32 v3, .flt .f32 v4, .flt .f32 v5, .flt .f32 v6, .int .i64 v7, .int .i64 v8]])) (ys := ((ms.take ms.length).drop (p + 1))) (by show E114 29 = _; exact b115) s124 (Recs.append (part_recs hr) (Recs.one (ks := KM) (.cons ⟨_, rfl⟩ (.cons ⟨_, rfl⟩ (.cons ⟨_, rfl⟩ (.cons ⟨_, rfl, o3⟩ (.cons ⟨_, rfl, o4⟩ (.cons ⟨_, rfl, o5⟩ (.cons ⟨_, rfl, o6⟩ (.cons ⟨_, rfl⟩ (.cons ⟨_, rfl⟩ .nil))))))))))).len (by show srcCells _ _ (E114 33) = _; rw [b116]; exact hV112.src _ g122) (recs_one (part_recs hr) rfl) (by first | omega | (simp only [List.length_append, List.length_cons, List.length_nil, List.length_drop, List.length_take]; omega)) ?_
   intro S125 H126 sS125 fS125 oS125
   have ne127 : ApartL (S125) p7 := fS125.apartL (H114.lt_of_get r123) (by assumption)
   have fr128 : FreshS H.next (S125) := fS125.fresh fr92 g122.next
   have g129 : Grew H H126 := OnlyS.own g122 fr92 oS125
   have r130 := oS125.at r123 (by assumption)
   have q131 := q113.app (.cons sS125.one .nil : KdsL [.one] [S125])
   refine run_mc (φ := φ0) (pm := pmY 1 [] 0) 20 (ws := [⟨p7, 0, [n2 1, n2 2, n2 3, nF 4, nF 5, nF 6, nF 7, nI 8, nI 9], false⟩]) (env := [(29, n1 24), (33, n1 26), (7, n1 24), (0, n1 0), (5, nI 10), (3, .ptr 0 0), (34, n1 27)]) q131 (.cons (wR r130 q131) .nil) (sepOk_ro rfl) .nil (eC q131 (.cons (put_ne rfl b115) (.cons (put_ne rfl b116) (.cons (put_ne rfl b117) (.cons (put_ne rfl b118) (.cons (put_ne rfl b119) (.cons (put_ne rfl b120) (.cons put_same .nil)))))))) tbY_ok ap_ok ?_
   refine all1 (by kernel_rfl) ?_
   intro vs ls H132 E132 st hE
   have gz : Grew H H132 := (Grew.trans g129 (gk st))
   have l9 : ((((ms.take p).drop 0) ++ [[.int .i32 v0, .int .i32 v1, .int .i32 v2, .flt .f32 v3, .flt .f32 v4, .flt .f32 v5, .flt .f32 v6, .int .i64 v7, .int .i64 v8]]) ++ ((ms.take ms.length).drop (p + 1))) = putL ms [.int .i32 v0, .int .i32 v1, .int .i32 v2, .flt .f32 v3, .flt .f32 v4, .flt .f32 v5, .flt .f32 v6, .int .i64 v7, .int .i64 v8] := by
    show _ = (if fnd ms v0 v1 v2 = true then (if betX [.int .i32 v0, .int .i32 v1, .int .i32 v2, .flt .f32 v3, .flt .f32 v4, .flt .f32 v5, .flt .f32 v6, .int .i64 v7, .int .i64 v8] (ms.getD (lin ms v0 v1 v2) []) = true then ms.set (lin ms v0 v1 v2) [.int .i32 v0, .int .i32 v1, .int .i32 v2, .flt .f32 v3, .flt .f32 v4, .flt .f32 v5, .flt .f32 v6, .int .i64 v7, .int .i64 v8] else ms) else ms.take (lin ms v0 v1 v2) ++ [[.int .i32 v0, .int .i32 v1, .int .i32 v2, .flt .f32 v3, .flt .f32 v4, .flt .f32 v5, .flt .f32 v6, .int .i64 v7, .int .i64 v8]] ++ ms.drop (lin ms v0 v1 v2))
    rw [hfd, hp, f42]
    rw [he53, if_pos rfl, if_pos f70]
    exact parts_set (by omega)
   
   exact res_ex (by kernel_rfl) (end_same st.inn hE (.inr rfl) (a := S125) (by kernel_rfl) gz.next ⟨gz, by rw [← l9]; exact (sS125.grew (st.inn.kept.grew (Nat.le_refl _))), fr128⟩)
  ·
   intro vs ls H133 E133 st hE
   have f134 : (betX [.int .i32 v0, .int .i32 v1, .int .i32 v2, .flt .f32 v3, .flt .f32 v4, .flt .f32 v5, .flt .f32 v6, .int .i64 v7, .int .i64 v8] [.int .i32 v53_0, .int .i32 v53_1, .int .i32 v53_2, .flt .f32 v53_3, .flt .f32 v53_4, .flt .f32 v53_5, .flt .f32 v53_6, .int .i64 v53_7, .int .i64 v53_8]) = false := bf st 0
   have b135 := eo st hE 36 S
   have b136 := eo st hE 37 (.int .i64 (p : Int))
   have b137 := eo st hE 35 S32
   have b138 := eo st hE 7 S32
   have b139 := eo st hE 3 (.ptr p7 0)
   have b140 := eo st hE 0 S
   have b141 := eo st hE 5 (.int .i64 (p : Int))
   have g142 : Grew H56 H133 := (gk st)
   have g143 : Grew H H133 := Grew.trans g63 g142
   have r144 := g142.at r64
   have s146 := s66.grew g142
   clear st hE vs ls
   obtain ⟨V147, hV147, sV147⟩ := sub_list hr.len hS p ms.length (by omega) (by omega)
   have lV147 : ((ms.take ms.length).drop p).length ≤ ms.length := by rw [List.length_drop, List.length_take]; omega
   refine res_q (d := some 38) (op := .slSl 9 (.tmp 36) (some (.tmp 37)) none none) (r := V147) (by kernel_rfl) rfl (sV147 _ _ 36 (some (.tmp 37)) none b135 (.inr (congrArg some b136)) (.inl ⟨rfl, rfl⟩)) ?_
   have q148 := q68.app (.cons hV147.one .nil : KdsL [.one] [V147])
   refine run_mc (φ := φ0) (pm := pmY 1 [] 0) 20 (ws := [⟨p7, 0, [n2 1, n2 2, n2 3, nF 4, nF 5, nF 6, nF 7, nI 8, nI 9], false⟩]) (env := [(36, n1 0), (37, nI 10), (35, n1 13), (7, n1 13), (3, .ptr 0 0), (0, n1 0), (5, nI 10), (38, n1 24)]) q148 (.cons (wR r144 q148) .nil) (sepOk_ro rfl) .nil (eC q148 (.cons (put_ne rfl b135) (.cons (put_ne rfl b136) (.cons (put_ne rfl b137) (.cons (put_ne rfl b138) (.cons (put_ne rfl b139) (.cons (put_ne rfl b140) (.cons (put_ne rfl b141) (.cons put_same .nil))))))))) tbY_ok ap_ok ?_
   refine all1 (by kernel_rfl) ?_
   intro vs ls H149 E149 st hE
   have b150 := eo st hE 35 S32
   have b151 := eo st hE 38 V147
   have b152 := eo st hE 7 S32
   have b153 := eo st hE 3 (.ptr p7 0)
   have b154 := eo st hE 0 S
   have b155 := eo st hE 5 (.int .i64 (p : Int))
   have g156 : Grew H133 H149 := (gk st)
   have g157 : Grew H H149 := Grew.trans g143 g156
   have r158 := g156.at r144
   have s159 := s146.grew g156
   clear st hE vs ls
   refine res_append (d := (some 39)) (sz := 9) (bytes := 48) (x := .tmp 35) (y := .tmp 38) (by kernel_rfl) (S := S32) (ms := ((ms.take p).drop 0)) (ys := ((ms.take ms.length).drop p)) (by show E149 35 = _; exact b150) s159 (part_recs hr).len (by show srcCells _ _ (E149 38) = _; rw [b151]; exact hV147.src _ g157) (recs_one (part_recs hr) rfl) (by first | omega | (simp only [List.length_append, List.length_cons, List.length_nil, List.length_drop, List.length_take]; omega)) ?_
   intro S160 H161 sS160 fS160 oS160
   have ne162 : ApartL (S160) p7 := fS160.apartL (H149.lt_of_get r158) (by assumption)
   have fr163 : FreshS H.next (S160) := fS160.fresh fr36 g157.next
   have g164 : Grew H H161 := OnlyS.own g157 fr36 oS160
   have r165 := oS160.at r158 (by assumption)
   have q166 := q148.app (.cons sS160.one .nil : KdsL [.one] [S160])
   refine run_mc (φ := φ0) (pm := pmY 1 [] 0) 20 (ws := [⟨p7, 0, [n2 1, n2 2, n2 3, nF 4, nF 5, nF 6, nF 7, nI 8, nI 9], false⟩]) (env := [(35, n1 13), (38, n1 24), (7, n1 13), (3, .ptr 0 0), (0, n1 0), (5, nI 10), (39, n1 25)]) q166 (.cons (wR r165 q166) .nil) (sepOk_ro rfl) .nil (eC q166 (.cons (put_ne rfl b150) (.cons (put_ne rfl b151) (.cons (put_ne rfl b152) (.cons (put_ne rfl b153) (.cons (put_ne rfl b154) (.cons (put_ne rfl b155) (.cons put_same .nil)))))))) tbY_ok ap_ok ?_
   refine all1 (by kernel_rfl) ?_
   intro vs ls H167 E167 st hE
   have gz : Grew H H167 := (Grew.trans g164 (gk st))
   have l9 : (((ms.take p).drop 0) ++ ((ms.take ms.length).drop p)) = putL ms [.int .i32 v0, .int .i32 v1, .int .i32 v2, .flt .f32 v3, .flt .f32 v4, .flt .f32 v5, .flt .f32 v6, .int .i64 v7, .int .i64 v8] := by
    show _ = (if fnd ms v0 v1 v2 = true then (if betX [.int .i32 v0, .int .i32 v1, .int .i32 v2, .flt .f32 v3, .flt .f32 v4, .flt .f32 v5, .flt .f32 v6, .int .i64 v7, .int .i64 v8] (ms.getD (lin ms v0 v1 v2) []) = true then ms.set (lin ms v0 v1 v2) [.int .i32 v0, .int .i32 v1, .int .i32 v2, .flt .f32 v3, .flt .f32 v4, .flt .f32 v5, .flt .f32 v6, .int .i64 v7, .int .i64 v8] else ms) else ms.take (lin ms v0 v1 v2) ++ [[.int .i32 v0, .int .i32 v1, .int .i32 v2, .flt .f32 v3, .flt .f32 v4, .flt .f32 v5, .flt .f32 v6, .int .i64 v7, .int .i64 v8]] ++ ms.drop (lin ms v0 v1 v2))
    rw [hfd, hp, f42]
    rw [he53, if_pos rfl, if_neg (by rw [f134]; decide)]
    exact parts_all _ _
   
   exact res_ex (by kernel_rfl) (end_same st.inn hE (.inr rfl) (a := S160) (by kernel_rfl) gz.next ⟨gz, by rw [← l9]; exact (sS160.grew (st.inn.kept.grew (Nat.le_refl _))), fr163⟩)
 ·
  intro vs ls H168 E168 st hE
  have f169 : fd = false := bf st 0
  obtain ⟨p170, e171, r172, n173⟩ := sl_of st.inn hE 42 1 1 1 9 (by kernel_rfl) (ds := [.int .i32 v0, .int .i32 v1, .int .i32 v2, .flt .f32 v3, .flt .f32 v4, .flt .f32 v5, .flt .f32 v6, .int .i64 v7, .int .i64 v8]) (by kernel_rfl)
  have op170 : H.next ≤ p170 := Nat.le_trans g37.next (n173 (Nat.le_of_ble_eq_true rfl))
  have ne174 := apn r39 (n173 (Nat.le_of_ble_eq_true rfl))
  have ne175 : ApartL (S32) p170 := sS32.apart_new (n173 (Nat.le_of_ble_eq_true rfl))
  have b176 := eo st hE 40 S32
  have b177 := eo st hE 7 S32
  have b178 := eo st hE 0 S
  have b179 := eo st hE 5 (.int .i64 (p : Int))
  have g180 : Grew H33 H168 := (gk st)
  have g181 : Grew H H168 := Grew.trans g37 g180
  have s183 := sS32.grew g180
  clear st hE vs ls
  refine res_append (d := (some 43)) (sz := 9) (bytes := 48) (x := .tmp 40) (y := .tmp 42) (by kernel_rfl) (S := S32) (ms := ((ms.take p).drop 0)) (ys := [[.int .i32 v0, .int .i32 v1, .int .i32 v2, .flt .f32 v3, .flt .f32 v4, .flt .f32 v5, .flt .f32 v6, .int .i64 v7, .int .i64 v8]]) (by show E168 40 = _; exact b176) s183 (part_recs hr).len (by show srcCells _ _ (E168 42) = _; rw [e171]; exact src_one r172 rfl) (recs_one (ks := KM) (Recs.one (ks := KM) (.cons ⟨_, rfl⟩ (.cons ⟨_, rfl⟩ (.cons ⟨_, rfl⟩ (.cons ⟨_, rfl, o3⟩ (.cons ⟨_, rfl, o4⟩ (.cons ⟨_, rfl, o5⟩ (.cons ⟨_, rfl, o6⟩ (.cons ⟨_, rfl⟩ (.cons ⟨_, rfl⟩ .nil)))))))))) rfl) (by first | omega | (simp only [List.length_append, List.length_cons, List.length_nil, List.length_drop, List.length_take]; omega)) ?_
  intro S184 H185 sS184 fS184 oS184
  have ne186 : ApartL (S184) p170 := fS184.apartL (H168.lt_of_get r172) (by assumption)
  have fr187 : FreshS H.next (S184) := fS184.fresh fr36 g181.next
  have g188 : Grew H H185 := OnlyS.own g181 fr36 oS184
  have r189 := oS184.at r172 (by assumption)
  have q190 := q40.app (.cons sS184.one .nil : KdsL [.one] [S184])
  refine run_mc (φ := φ0) (pm := pmY 1 [] 0) 20 (ws := [⟨p170, 0, [n2 1, n2 2, n2 3, nF 4, nF 5, nF 6, nF 7, nI 8, nI 9], false⟩]) (env := [(40, n1 13), (42, .sl 0 0 1 1 9), (7, n1 13), (0, n1 0), (5, nI 10), (43, n1 14)]) q190 (.cons (wR r189 q190) .nil) (sepOk_ro rfl) .nil (eC q190 (.cons (put_ne rfl b176) (.cons (put_ne rfl e171) (.cons (put_ne rfl b177) (.cons (put_ne rfl b178) (.cons (put_ne rfl b179) (.cons put_same .nil))))))) tbY_ok ap_ok ?_
  refine all1 (by kernel_rfl) ?_
  intro vs ls H191 E191 st hE
  have b192 := eo st hE 45 S
  have b193 := eo st hE 46 (.int .i64 (p : Int))
  have b194 := eo st hE 44 S184
  have g195 : Grew H185 H191 := (gk st)
  have g196 : Grew H H191 := Grew.trans g188 g195
  have s198 := sS184.grew g195
  clear st hE vs ls
  obtain ⟨V199, hV199, sV199⟩ := sub_list hr.len hS p ms.length (by omega) (by omega)
  have lV199 : ((ms.take ms.length).drop p).length ≤ ms.length := by rw [List.length_drop, List.length_take]; omega
  refine res_q (d := some 47) (op := .slSl 9 (.tmp 45) (some (.tmp 46)) none none) (r := V199) (by kernel_rfl) rfl (sV199 _ _ 45 (some (.tmp 46)) none b192 (.inr (congrArg some b193)) (.inl ⟨rfl, rfl⟩)) ?_
  have q200 := q190.app (.cons hV199.one .nil : KdsL [.one] [V199])
  refine run_mc (φ := φ0) (pm := pmY 0 [] 0) 20 (ws := []) (env := [(45, n1 0), (46, nI 10), (44, n1 14), (47, n1 15)]) q200 .nil (sepOk_ro rfl) .nil (eC q200 (.cons (put_ne rfl b192) (.cons (put_ne rfl b193) (.cons (put_ne rfl b194) (.cons put_same .nil))))) tbY_ok ap_ok ?_
  refine all1 (by kernel_rfl) ?_
  intro vs ls H201 E201 st hE
  have b202 := eo st hE 44 S184
  have b203 := eo st hE 47 V199
  have g204 : Grew H191 H201 := (gk st)
  have g205 : Grew H H201 := Grew.trans g196 g204
  have s206 := s198.grew g204
  clear st hE vs ls
  refine res_append (d := (some 48)) (sz := 9) (bytes := 48) (x := .tmp 44) (y := .tmp 47) (by kernel_rfl) (S := S184) (ms := (((ms.take p).drop 0) ++ [[.int .i32 v0, .int .i32 v1, .int .i32 v2, .flt .f32 v3, .flt .f32 v4, .flt .f32 v5, .flt .f32 v6, .int .i64 v7, .int .i64 v8]])) (ys := ((ms.take ms.length).drop p)) (by show E201 44 = _; exact b202) s206 (Recs.append (part_recs hr) (Recs.one (ks := KM) (.cons ⟨_, rfl⟩ (.cons ⟨_, rfl⟩ (.cons ⟨_, rfl⟩ (.cons ⟨_, rfl, o3⟩ (.cons ⟨_, rfl, o4⟩ (.cons ⟨_, rfl, o5⟩ (.cons ⟨_, rfl, o6⟩ (.cons ⟨_, rfl⟩ (.cons ⟨_, rfl⟩ .nil))))))))))).len (by show srcCells _ _ (E201 47) = _; rw [b203]; exact hV199.src _ g205) (recs_one (part_recs hr) rfl) (by first | omega | (simp only [List.length_append, List.length_cons, List.length_nil, List.length_drop, List.length_take]; omega)) ?_
  intro S207 H208 sS207 fS207 oS207
  have fr209 : FreshS H.next (S207) := fS207.fresh fr187 g205.next
  have g210 : Grew H H208 := OnlyS.own g205 fr187 oS207
  have q211 := q200.app (.cons sS207.one .nil : KdsL [.one] [S207])
  refine run_mc (φ := φ0) (pm := pmY 0 [] 0) 20 (ws := []) (env := [(44, n1 14), (47, n1 15), (48, n1 16)]) q211 .nil (sepOk_ro rfl) .nil (eC q211 (.cons (put_ne rfl b202) (.cons (put_ne rfl b203) (.cons put_same .nil)))) tbY_ok ap_ok ?_
  refine all1 (by kernel_rfl) ?_
  intro vs ls H212 E212 st hE
  have gz : Grew H H212 := (Grew.trans g210 (gk st))
  have l9 : ((((ms.take p).drop 0) ++ [[.int .i32 v0, .int .i32 v1, .int .i32 v2, .flt .f32 v3, .flt .f32 v4, .flt .f32 v5, .flt .f32 v6, .int .i64 v7, .int .i64 v8]]) ++ ((ms.take ms.length).drop p)) = putL ms [.int .i32 v0, .int .i32 v1, .int .i32 v2, .flt .f32 v3, .flt .f32 v4, .flt .f32 v5, .flt .f32 v6, .int .i64 v7, .int .i64 v8] := by
   show _ = (if fnd ms v0 v1 v2 = true then (if betX [.int .i32 v0, .int .i32 v1, .int .i32 v2, .flt .f32 v3, .flt .f32 v4, .flt .f32 v5, .flt .f32 v6, .int .i64 v7, .int .i64 v8] (ms.getD (lin ms v0 v1 v2) []) = true then ms.set (lin ms v0 v1 v2) [.int .i32 v0, .int .i32 v1, .int .i32 v2, .flt .f32 v3, .flt .f32 v4, .flt .f32 v5, .flt .f32 v6, .int .i64 v7, .int .i64 v8] else ms) else ms.take (lin ms v0 v1 v2) ++ [[.int .i32 v0, .int .i32 v1, .int .i32 v2, .flt .f32 v3, .flt .f32 v4, .flt .f32 v5, .flt .f32 v6, .int .i64 v7, .int .i64 v8]] ++ ms.drop (lin ms v0 v1 v2))
   rw [hfd, hp, f169]
   rw [if_neg (by decide)]
   exact parts_ins _ _ _
  
  exact res_ex (by kernel_rfl) (end_same st.inn hE (.inr rfl) (a := S207) (by kernel_rfl) gz.next ⟨gz, by rw [← l9]; exact (sS207.grew (st.inn.kept.grew (Nat.le_refl _))), fr209⟩)
end Go.Proofs.Ytacligocjfhckaa
