/- Contracts: sweeps, by both. -/
import Derived.Test.YtcmoeocemmeofaaTTold
import Derived.Test.YtcmoeocemmeofaaSxD
set_option linter.unusedVariables false
set_option linter.unusedSimpArgs false
namespace Go.Proofs.Ytcmoeocemmeofaa
open Go.Ab
set_option maxRecDepth 100000
set_option maxHeartbeats 1000000
attribute [local irreducible] Res
theorem okG_set {ms ks : List (List AV)} (h : okG ms ks = true) {k : Nat} {p : List AV} (hp : finP p = true) : okG (ms.set k p) ks = true := by
 unfold okG at h ⊢
 simp only [Bool.and_eq_true, List.length_set] at h ⊢
 refine ⟨h.1, allB_true fun i hi => ?_, h.2.2⟩
 have hi' : i < ms.length := hi
 by_cases e : k = i
 ·
  subst e
  rw [show (ms.set k p).getD k [] = p by simp [List.getD_eq_getElem?_getD, hi']]; exact hp
 ·
  rw [show (ms.set k p).getD i [] = ms.getD i [] by simp [List.getD_eq_getElem?_getD, List.getElem?_set_ne e]]
  exact allB_get h.2.1 i hi'
theorem set_back {ms : List (List AV)} {k : Nat} {p q : List AV} (hk : k < ms.length) (h : ms.getD k [] = q) : (ms.set k p).set k q = ms := by
 rw [List.set_set, ← h, show ms.getD k [] = ms[k] by simp [List.getD_eq_getElem?_getD, hk]]
 exact List.set_getElem_self hk
noncomputable def swS (ks : List (List AV)) (s : List (List AV) × Int) (i : Nat) : List (List AV) × Int :=
 if (toldF s.1 ks (i : Int)).2 = true then (if (finP (toldF s.1 ks (i : Int)).1 && (ford .f32 (costF (s.1.set i (toldF s.1 ks (i : Int)).1) ks ks.length) (costF s.1 ks ks.length) == some .lt)) = true then (s.1.set i (toldF s.1 ks (i : Int)).1, s.2 + 1) else s) else s
noncomputable def sweepT (ms ks : List (List AV)) : Nat → List (List AV) × Int
 | 0 => (ms, 0)
 | k + 1 => if k = 0 then (ms, 0) else swS ks (sweepT ms ks k) k
theorem sweepT_inv {ms ks : List (List AV)} (hr : Recs KP ms) (hok : okG ms ks = true) : ∀ k, Recs KP (sweepT ms ks k).1 ∧ (sweepT ms ks k).1.length = ms.length ∧ okG (sweepT ms ks k).1 ks = true ∧ 0 ≤ (sweepT ms ks k).2 ∧ (sweepT ms ks k).2 ≤ k
 | 0 => ⟨hr, rfl, hok, Int.le_refl _, Int.le_refl _⟩
 | k + 1 => by
  obtain ⟨h1, h2, h3, h4, h5⟩ := sweepT_inv hr hok k
  unfold sweepT
  split
  ·
   exact ⟨hr, rfl, hok, Int.le_refl _, by show (0 : Int) ≤ _; omega⟩
  ·
   unfold swS
   split
   ·
    split
    ·
     rename_i hc
     rw [Bool.and_eq_true] at hc
     refine ⟨Recs.set h1 (toldF_ok _ _ _), by rw [List.length_set]; exact h2, okG_set h3 hc.1, ?_, ?_⟩
     ·
      show (0 : Int) ≤ (sweepT ms ks k).2 + 1; omega
     ·
      show (sweepT ms ks k).2 + 1 ≤ ((k + 1 : Nat) : Int); omega
    ·
     exact ⟨h1, h2, h3, h4, by omega⟩
   ·
    exact ⟨h1, h2, h3, h4, by omega⟩
noncomputable def sweepF (ms ks : List (List AV)) : List (List AV) × Int := sweepT ms ks ms.length
theorem k_sweep (H : AHeap) (ms : List (List AV)) (hr : Recs KP ms) (S : AV) (hS : SlW H 3 ms S) (hmx : ms.length < 2 ^ 40) (ks : List (List AV)) (hrk : Recs KL ks) (Sk : AV) (hSk : SlW H 6 ks Sk) (hmxk : ks.length < 2 ^ 40) (hap : ApartS S Sk) (hok : okG ms ks = true) : ACalls Try.prog 81 [.agg [S, Sk]] H fun r H' => r = .int .i64 (sweepF ms ks).2 ∧ OnlyS S H H' ∧ SlW H' 3 (sweepF ms ks).1 S := by
 refine res_start h_impl_PoseGraph_sweep (by simp) ?_
 have hlen0 := okG_len hok
 have q1 : KdsL [.one, .one] [S, Sk] := .cons hS.one (.cons hSk.one .nil)
 refine run_mc (φ := φP) (pm := pmPR 0 [] 0) 20 (ws := []) (env := [(0, .agg [n1 0, n1 1])]) q1 .nil (sepOk_ro rfl) .nil (eC q1 (.cons (t := 0) rfl .nil)) tb_ok apP_ok ?_
 refine all1 (by kernel_rfl) ?_
 intro vs ls H2 E2 st hE
 obtain ⟨p3, e4, r5, n6⟩ := ptr_of st.inn hE 1 0 (by kernel_rfl) (ds := [S, Sk]) (by kernel_rfl)
 have op3 : H.next ≤ p3 := Nat.le_trans (Nat.le_refl _) (n6 (Nat.le_of_ble_eq_true rfl))
 have ne7 : ApartL (S) p3 := hS.apart_new (n6 (Nat.le_of_ble_eq_true rfl))
 have ne8 : ApartL (Sk) p3 := hSk.apart_new (n6 (Nat.le_of_ble_eq_true rfl))
 have b9 := eo st hE 4 (.int .i64 1)
 have b10 := eo st hE 3 (.int .i64 0)
 have g11 : Grew H H2 := (gk st)
 have g12 : OnlyS S H H2 := (OnlyS.of_grew (Grew.refl H)).grewR g11
 have s13 := hS.grew g11
 have s14 := hSk.grew g11
 clear st hE vs ls
 refine res_loop (by kernel_rfl) (fun z E H' => ∃ (i : Nat), z + i = ms.length ∧ 1 ≤ i ∧ E 1 = .ptr p3 0 ∧ E 4 = .int .i64 (i : Int) ∧ E 3 = .int .i64 (sweepT ms ks i).2 ∧ OnlyS S H H' ∧ H'.get p3 = some (.row [S, Sk] true) ∧ SlW H' 3 (sweepT ms ks i).1 S ∧ SlW H' 6 ks Sk) (ms.length - 1) ⟨1, by omega, by omega, e4, b9, b10, g12, r5, s13, s14⟩ ?_
 rintro z15 Ei15 Hi15 ⟨i15, hz15, hst15, c15_1, ci15, cv15_3, gt15, r15_0, so15_0, so15_1⟩
 have hlm : (sweepT ms ks i15).1.length = ms.length := (sweepT_inv hr hok i15).2.1
 have hlm40 : (sweepT ms ks i15).1.length < 2 ^ 40 := by rw [hlm]; exact hmx
 have q16 := q1.app (.cons ⟨_, rfl⟩ (.cons ⟨_, rfl⟩ (.cons ⟨_, rfl⟩ .nil)) : KdsL [KI, KI, KI] [.int .i64 (i15 : Int), .int .i64 (sweepT ms ks i15).2, .int .i64 ((sweepT ms ks i15).1.length : Int)])
 refine run_mc (φ := φP) (pm := pmPR 1 [(.len (n1 0), nI 4)] 0) 20 (ws := [⟨p3, 0, [n1 0, n1 1], false⟩]) (env := [(1, .ptr 0 0), (4, nI 2), (3, nI 3)]) q16 (.cons (wR r15_0 q16) .nil) (sepOk_ro rfl) (.cons (⟨_, _, (dE q16), (dE q16), slLen (so15_0.toL)⟩) .nil) (eC q16 (.cons c15_1 (.cons ci15 (.cons cv15_3 .nil)))) tb_ok apP_ok ?_
 refine all2 (by kernel_rfl) ?_ ?_
 ·
  intro vs ls H17 E17 st hE
  have f18 : (i15 : Int) < ((sweepT ms ks i15).1.length : Int) := dt st 0
  have b19 := eo st hE 17 (.agg [S, Sk])
  have b20 := eo st hE 18 (.int .i64 (i15 : Int))
  have b21 := eo st hE 1 (.ptr p3 0)
  have b22 := eo st hE 4 (.int .i64 (i15 : Int))
  have b23 := eo st hE 3 (.int .i64 (sweepT ms ks i15).2)
  have g24 : Grew Hi15 H17 := (gk st)
  have g25 : OnlyS S H H17 := gt15.grewR g24
  have r26 := g24.at r15_0
  have s27 := so15_0.grew g24
  have s28 := so15_1.grew g24
  clear st hE vs ls
  obtain ⟨r29_0, r29_1, r29_2, hmr29, or29_0, or29_1, or29_2⟩ := partsPose (toldF_ok (sweepT ms ks i15).1 ks (i15 : Int))
  refine res_call (d := (some 19)) (f := 107) (args := [.tmp 17, .tmp 18]) (by kernel_rfl) (R := fun z H' => z = .tuple [.agg [.flt .f32 r29_0, .flt .f32 r29_1, .flt .f32 r29_2], .bool (toldF (sweepT ms ks i15).1 ks (i15 : Int)).2] ∧ H' = H17) ?_ ?_
  ·
   show ACalls _ _ [E17 17, E17 18] _ _
   rw [b19, b20]
   exact (by rw [← hmr29]; exact k_told H17 (sweepT ms ks i15).1 (sweepT_inv hr hok i15).1 S s27.toL hlm40 ks hrk Sk s28.toL hmxk (sweepT_inv hr hok i15).2.2.1 i15 (by omega))
  rintro z H17 ⟨rfl, rfl⟩
  have q30 := q16.app (.cons ⟨_, rfl, or29_0⟩ (.cons ⟨_, rfl, or29_1⟩ (.cons ⟨_, rfl, or29_2⟩ (.cons ⟨_, rfl⟩ .nil))) : KdsL [KF, KF, KF, .bool] [.flt .f32 r29_0, .flt .f32 r29_1, .flt .f32 r29_2, .bool (toldF (sweepT ms ks i15).1 ks (i15 : Int)).2])
  refine run_mc (φ := φP) (pm := pmPR 1 [] 0) 20 (ws := [⟨p3, 0, [n1 0, n1 1], false⟩]) (env := [(17, .agg [n1 0, n1 1]), (18, nI 2), (1, .ptr 0 0), (4, nI 2), (3, nI 3), (19, .tup [.agg [nF 5, nF 6, nF 7], nB 8])]) q30 (.cons (wR r26 q30) .nil) (sepOk_ro rfl) .nil (eC q30 (.cons (put_ne rfl b19) (.cons (put_ne rfl b20) (.cons (put_ne rfl b21) (.cons (put_ne rfl b22) (.cons (put_ne rfl b23) (.cons put_same .nil))))))) tb_ok apP_ok ?_
  refine all2 (by kernel_rfl) ?_ ?_
  ·
   intro vs ls H31 E31 st hE
   have f32 : (toldF (sweepT ms ks i15).1 ks (i15 : Int)).2 = false := bf st 0
   obtain ⟨w33, hw33⟩ : ∃ z, z = (IntKind.wrap .i64 ((i15 : Int) + 1)) := ⟨_, rfl⟩
   have b34 : E31 4 = .int .i64 w33 := by rw [hw33]; exact eo st hE 4 _
   have b35 := eo st hE 1 (.ptr p3 0)
   have b36 := eo st hE 3 (.int .i64 (sweepT ms ks i15).2)
   have g37 : Grew H17 H31 := (gk st)
   have g38 : OnlyS S H H31 := g25.grewR g37
   have r39 := g37.at r26
   have s40 := s27.grew g37
   have s41 := s28.grew g37
   clear st hE vs ls
   have hz9 : z15 - 1 < z15 := by omega
   have hy9 : z15 - 1 + (i15 + 1) = ms.length := by omega
   have hi9 : E31 4 = .int .i64 ((i15 + 1 : Nat) : Int) := by rw [b34, hw33, wrap64 (by omega)]
   have hn9 : sweepT ms ks (i15 + 1) = sweepT ms ks i15 := by
    show (if i15 = 0 then _ else _) = _; rw [if_neg (by omega)]; unfold swS; rw [(show (toldF (sweepT ms ks i15).1 ks (i15 : Int)).2 = false from by simpa using f32)]; rfl
   exact res_norm (by kernel_rfl) ⟨z15 - 1, hz9, i15 + 1, hy9, by omega, b35, hi9, (by rw [hn9]; exact b36), g38, r39, (by rw [hn9]; exact s40), s41⟩
  ·
   intro vs ls H42 E42 st hE
   have f43 : (toldF (sweepT ms ks i15).1 ks (i15 : Int)).2 = true := bf st 0
   obtain ⟨p44, e45, r46, n47⟩ := ptr_of st.inn hE 5 1 (by kernel_rfl) (ds := [.flt .f32 r29_0, .flt .f32 r29_1, .flt .f32 r29_2]) (by kernel_rfl)
   have op44 : H.next ≤ p44 := Nat.le_trans g25.next (n47 (Nat.le_of_ble_eq_true rfl))
   have ne48 := apn r26 (n47 (Nat.le_of_ble_eq_true rfl))
   have ne49 : ApartL (S) p44 := s27.apart_new (n47 (Nat.le_of_ble_eq_true rfl))
   have ne50 : ApartL (Sk) p44 := s28.apart_new (n47 (Nat.le_of_ble_eq_true rfl))
   have b51 := eo st hE 27 S
   have b52 := eo st hE 28 (.int .i64 (i15 : Int))
   have b53 := eo st hE 24 (.agg [S, Sk])
   have b54 := eo st hE 1 (.ptr p3 0)
   have b55 := eo st hE 4 (.int .i64 (i15 : Int))
   have b56 := eo st hE 3 (.int .i64 (sweepT ms ks i15).2)
   have g57 : Grew H17 H42 := (gk st)
   have g58 : OnlyS S H H42 := g25.grewR g57
   have r59 := g57.at r26
   have s60 := s27.grew g57
   have s61 := s28.grew g57
   clear st hE vs ls
   have hlt62 : i15 < (sweepT ms ks i15).1.length := by omega
   obtain ⟨lS62, cap62, rest62, wr62, eS62, gS62⟩ := (s60.toL).isSl hlt62
   have ne63 : Apart p3 lS62 := ⟨fun e => (show ApartL (S) p3 by assumption).ne ⟨0, _, _, _, by rw [e]; exact eS62⟩⟩
   have ne64 : Apart p44 lS62 := ⟨fun e => (show ApartL (S) p44 by assumption).ne ⟨0, _, _, _, by rw [e]; exact eS62⟩⟩
   obtain ⟨v62_0, v62_1, v62_2, hm62, ho62_0, ho62_1, ho62_2⟩ := partsPose ((sweepT_inv hr hok i15).1.get hlt62)
   have he62 : (sweepT ms ks i15).1.getD i15 [] = [.flt .f32 v62_0, .flt .f32 v62_1, .flt .f32 v62_2] := by rw [← hm62, List.getD_eq_getElem?_getD, List.getElem?_eq_getElem hlt62]; rfl
   have q65 := q30.app (.cons ⟨_, rfl, ho62_0⟩ (.cons ⟨_, rfl, ho62_1⟩ (.cons ⟨_, rfl, ho62_2⟩ .nil)) : KdsL [KF, KF, KF] [.flt .f32 v62_0, .flt .f32 v62_1, .flt .f32 v62_2])
   refine run_mc (φ := φP) (pm := pmPR 3 [(.ia 3 (n1 0) (nI 2), .ptr 2 0)] 0) 20 (ws := [⟨p3, 0, [n1 0, n1 1], false⟩, ⟨p44, 0, [nF 5, nF 6, nF 7], false⟩, ⟨lS62, (i15 * 3), [nF 9, nF 10, nF 11], false⟩]) (env := [(27, n1 0), (28, nI 2), (24, .agg [n1 0, n1 1]), (1, .ptr 0 0), (4, nI 2), (5, .ptr 1 0), (3, nI 3)]) q65 (.cons (wR r59 q65) (.cons (wR r46 q65) (.cons (win_elem (sweepT_inv hr hok i15).1 gS62 hlt62 rfl (by rw [hm62]; exact (dL q65))) .nil))) (sepOk_ro rfl) (.cons (rule_iaS (k := i15) (dE q65) eS62 (dE q65) hlt62 rfl) .nil) (eC q65 (.cons b51 (.cons b52 (.cons b53 (.cons b54 (.cons b55 (.cons e45 (.cons b56 .nil)))))))) tb_ok apP_ok ?_
   refine all1 (by kernel_rfl) ?_
   intro vs ls H66 E66 st hE
   obtain ⟨p67, e68, r69, n70⟩ := ptr_of st.inn hE 8 3 (by kernel_rfl) (ds := [.flt .f32 (some 0), .flt .f32 (some 0), .flt .f32 (some 0)]) (by kernel_rfl)
   have op67 : H.next ≤ p67 := Nat.le_trans g58.next (n70 (Nat.le_of_ble_eq_true rfl))
   have ne71 := apn r59 (n70 (Nat.le_of_ble_eq_true rfl))
   have ne72 := apn r46 (n70 (Nat.le_of_ble_eq_true rfl))
   have ne73 := apn gS62 (n70 (Nat.le_of_ble_eq_true rfl))
   have ne74 : ApartL (S) p67 := s60.apart_new (n70 (Nat.le_of_ble_eq_true rfl))
   have ne75 : ApartL (Sk) p67 := s61.apart_new (n70 (Nat.le_of_ble_eq_true rfl))
   have b76 := eo st hE 24 (.agg [S, Sk])
   have b77 := eo st hE 30 (.agg [.flt .f32 v62_0, .flt .f32 v62_1, .flt .f32 v62_2])
   have b78 := eo st hE 1 (.ptr p3 0)
   have b79 := eo st hE 4 (.int .i64 (i15 : Int))
   have b80 := eo st hE 5 (.ptr p44 0)
   have b81 := eo st hE 3 (.int .i64 (sweepT ms ks i15).2)
   have g82 : Grew H42 H66 := (gk st)
   have g83 : OnlyS S H H66 := g58.grewR g82
   have r84 := g82.at r59
   have r85 := g82.at r46
   have s87 := s60.grew g82
   have s88 := s61.grew g82
   clear st hE vs ls
   refine res_kid (free := false) (d := (some 25)) (f := 68) (args := [.tmp 24]) (by kernel_rfl) (R := fun z H' => z = .flt .f32 (costF (sweepT ms ks i15).1 ks ks.length) ∧ H' = H66) ?_ ?_
   ·
    show ACalls _ _ [E66 24] _ _
    rw [b76]
    exact k_cost H66 (sweepT ms ks i15).1 (sweepT_inv hr hok i15).1 S s87.toL hlm40 ks hrk Sk s88.toL hmxk (sweepT_inv hr hok i15).2.2.1
   rintro z H66 ⟨rfl, rfl⟩
   refine ⟨Grew.refl _, ?_⟩
   have q89 := q65.app (.cons ⟨_, rfl, costF_ok (sweepT ms ks i15).1 ks ks.length⟩ .nil : KdsL [KF] [.flt .f32 (costF (sweepT ms ks i15).1 ks ks.length)])
   refine run_mc (φ := φP) (pm := pmPR 2 [] 0) 20 (ws := [⟨p3, 0, [n1 0, n1 1], false⟩, ⟨p44, 0, [nF 5, nF 6, nF 7], false⟩, ⟨p67, 0, [.lit (.flt .f32 (some 0)), .lit (.flt .f32 (some 0)), .lit (.flt .f32 (some 0))], true⟩]) (env := [(24, .agg [n1 0, n1 1]), (8, .ptr 2 0), (30, .agg [nF 9, nF 10, nF 11]), (1, .ptr 0 0), (4, nI 2), (5, .ptr 1 0), (3, nI 3), (25, nF 12)]) q89 (.cons (wR r84 q89) (.cons (wR r85 q89) (.cons (wO r69 q89) .nil))) (sepD (by repeat (first | exact .nil | refine .cons (by first | assumption | exact Apart.symm (by assumption)) ?_))) .nil (eC q89 (.cons (put_ne rfl b76) (.cons (put_ne rfl e68) (.cons (put_ne rfl b77) (.cons (put_ne rfl b78) (.cons (put_ne rfl b79) (.cons (put_ne rfl b80) (.cons (put_ne rfl b81) (.cons put_same .nil))))))))) tb_ok apP_ok ?_
   refine all1 (by kernel_rfl) ?_
   intro vs ls H90 E90 st hE
   have r91 : H90.get p67 = some (.row [.flt .f32 v62_0, .flt .f32 v62_1, .flt .f32 v62_2] true) := row_whole st.inn 2 (l := p67) (b := 0) rfl (by kernel_rfl)
   have b92 := eo st hE 32 S
   have b93 := eo st hE 33 (.int .i64 (i15 : Int))
   have b94 := eo st hE 34 (.agg [.flt .f32 r29_0, .flt .f32 r29_1, .flt .f32 r29_2])
   have b95 := eo st hE 5 (.ptr p44 0)
   have b96 := eo st hE 1 (.ptr p3 0)
   have b97 := eo st hE 7 (.flt .f32 (costF (sweepT ms ks i15).1 ks ks.length))
   have b98 := eo st hE 3 (.int .i64 (sweepT ms ks i15).2)
   have b99 := eo st hE 4 (.int .i64 (i15 : Int))
   have b100 := eo st hE 8 (.ptr p67 0)
   have g102 : OnlyS S H H90 := only_own g83 st.inn.kept ⟨op67, trivial⟩
   have r103 := kept_at st.inn.kept r84 ⟨by first | assumption | exact Apart.symm (by assumption), trivial⟩
   have r104 := kept_at st.inn.kept r85 ⟨by first | assumption | exact Apart.symm (by assumption), trivial⟩
   have s105 := s87.keep st.inn.kept ⟨by assumption, trivial⟩
   have s106 := s88.keep st.inn.kept ⟨by assumption, trivial⟩
   clear st hE vs ls
   have hlt107 : i15 < (sweepT ms ks i15).1.length := by omega
   obtain ⟨lS107, cap107, rest107, wr107, eS107, gS107⟩ := (s105.toL).isSl hlt107
   have ne108 : Apart p3 lS107 := ⟨fun e => (show ApartL (S) p3 by assumption).ne ⟨0, _, _, _, by rw [e]; exact eS107⟩⟩
   have ne109 : Apart p44 lS107 := ⟨fun e => (show ApartL (S) p44 by assumption).ne ⟨0, _, _, _, by rw [e]; exact eS107⟩⟩
   have ne110 : Apart p67 lS107 := ⟨fun e => (show ApartL (S) p67 by assumption).ne ⟨0, _, _, _, by rw [e]; exact eS107⟩⟩
   obtain ⟨v107_0, v107_1, v107_2, hm107, ho107_0, ho107_1, ho107_2⟩ := partsPose ((sweepT_inv hr hok i15).1.get hlt107)
   have he107 : (sweepT ms ks i15).1.getD i15 [] = [.flt .f32 v107_0, .flt .f32 v107_1, .flt .f32 v107_2] := by rw [← hm107, List.getD_eq_getElem?_getD, List.getElem?_eq_getElem hlt107]; rfl
   have hq107 := he62.symm.trans he107
   simp only [List.cons.injEq, AV.flt.injEq, AV.int.injEq, Int.natCast_inj, true_and, and_true] at hq107
   obtain ⟨rfl, rfl, rfl⟩ := hq107
   have q111 := q89.app (.cons ⟨_, rfl, ho107_0⟩ (.cons ⟨_, rfl, ho107_1⟩ (.cons ⟨_, rfl, ho107_2⟩ .nil)) : KdsL [KF, KF, KF] [.flt .f32 v62_0, .flt .f32 v62_1, .flt .f32 v62_2])
   refine run_mc (φ := φP) (pm := pmPR 3 [(.ia 3 (n1 0) (nI 2), .ptr 2 0)] 0) 20 (ws := [⟨p3, 0, [n1 0, n1 1], false⟩, ⟨p44, 0, [nF 5, nF 6, nF 7], false⟩, ⟨lS107, (i15 * 3), [nF 13, nF 14, nF 15], false⟩, ⟨p67, 0, [nF 9, nF 10, nF 11], true⟩]) (env := [(32, n1 0), (33, nI 2), (34, .agg [nF 5, nF 6, nF 7]), (5, .ptr 1 0), (1, .ptr 0 0), (7, nF 12), (3, nI 3), (4, nI 2), (8, .ptr 3 0)]) q111 (.cons (wR r103 q111) (.cons (wR r104 q111) (.cons (win_elem (sweepT_inv hr hok i15).1 gS107 hlt107 rfl (by rw [hm107]; exact (dL q111))) (.cons (wO r91 q111) .nil)))) (sepD (by repeat (first | exact .nil | refine .cons (by first | assumption | exact Apart.symm (by assumption)) ?_))) (.cons (rule_iaS (k := i15) (dE q111) eS107 (dE q111) hlt107 rfl) .nil) (eC q111 (.cons b92 (.cons b93 (.cons b94 (.cons b95 (.cons b96 (.cons b97 (.cons b98 (.cons b99 (.cons b100 .nil)))))))))) tb_ok apP_ok ?_
   refine all1 (by kernel_rfl) ?_
   intro vs ls H112 E112 st hE
   have b113 := eo st hE 35 (.ptr lS107 ((i15 * 3) + 0))
   have b114 := eo st hE 34 (.agg [.flt .f32 r29_0, .flt .f32 r29_1, .flt .f32 r29_2])
   have b115 := eo st hE 5 (.ptr p44 0)
   have b116 := eo st hE 1 (.ptr p3 0)
   have b117 := eo st hE 7 (.flt .f32 (costF (sweepT ms ks i15).1 ks ks.length))
   have b118 := eo st hE 3 (.int .i64 (sweepT ms ks i15).2)
   have b119 := eo st hE 4 (.int .i64 (i15 : Int))
   have b120 := eo st hE 8 (.ptr p67 0)
   have g121 : Grew H90 H112 := (gk st)
   have g122 : OnlyS S H H112 := g102.grewR g121
   have r123 := g121.at r103
   have r124 := g121.at r104
   have r126 := g121.at r91
   have s127 := s105.grew g121
   have s128 := s106.grew g121
   clear st hE vs ls
   refine res_storeS (d := none) (n := 3) (x := .tmp 35) (y := .tmp 34) (by kernel_rfl) (S := S) (ms := (sweepT ms ks i15).1) (k := i15) (m' := [.flt .f32 r29_0, .flt .f32 r29_1, .flt .f32 r29_2]) (s127) eS107 b113 hlt107 (sweepT_inv hr hok i15).1.len (by show AV.cells (E112 34) = _; rw [b114]; rfl) rfl rfl rfl ?_
   intro H129 s129 oo129
   have hln129 : ((sweepT ms ks i15).1.set i15 [.flt .f32 r29_0, .flt .f32 r29_1, .flt .f32 r29_2]).length = (sweepT ms ks i15).1.length := by simp
   have g130 : OnlyS S H H129 := g122.trans oo129
   have r131 := oo129.at r123 (by assumption)
   have r132 := oo129.at r124 (by assumption)
   have r133 := oo129.at r126 (by assumption)
   have s134 := s128.only oo129 (by first | assumption | exact ApartS.symm (by assumption))
   have q135 := q111.app (.cons ⟨_, rfl⟩ .nil : KdsL [.bool] [.bool (finP [.flt .f32 r29_0, .flt .f32 r29_1, .flt .f32 r29_2])])
   refine run_mc (φ := φP) (pm := pmPR 2 [(.call 57 [.agg [nF 5, nF 6, nF 7]], nB 16)] 0) 20 (ws := [⟨p3, 0, [n1 0, n1 1], false⟩, ⟨p44, 0, [nF 5, nF 6, nF 7], false⟩, ⟨p67, 0, [nF 9, nF 10, nF 11], true⟩]) (env := [(34, .agg [nF 5, nF 6, nF 7]), (5, .ptr 1 0), (1, .ptr 0 0), (7, nF 12), (3, nI 3), (4, nI 2), (8, .ptr 2 0)]) q135 (.cons (wR r131 q135) (.cons (wR r132 q135) (.cons (wO r133 q135) .nil))) (sepD (by repeat (first | exact .nil | refine .cons (by first | assumption | exact Apart.symm (by assumption)) ?_))) (.cons (rule_call (args := [.agg [.flt .f32 r29_0, .flt .f32 r29_1, .flt .f32 r29_2]]) (dL q135) (dE q135) (fun H9 hk => k_IsFinitePose [.flt .f32 r29_0, .flt .f32 r29_1, .flt .f32 r29_2] (.cons ⟨_, rfl, or29_0⟩ (.cons ⟨_, rfl, or29_1⟩ (.cons ⟨_, rfl, or29_2⟩ .nil))) H9)) .nil) (eC q135 (.cons (put_no b114) (.cons (put_no b115) (.cons (put_no b116) (.cons (put_no b117) (.cons (put_no b118) (.cons (put_no b119) (.cons (put_no b120) .nil)))))))) tb_ok apP_ok ?_
   refine all2 (by kernel_rfl) ?_ ?_
   ·
    intro vs ls H136 E136 st hE
    have f137 : (finP [.flt .f32 r29_0, .flt .f32 r29_1, .flt .f32 r29_2]) = true := bf st 0
    have b138 := eo st hE 39 (.agg [S, Sk])
    have b139 := eo st hE 7 (.flt .f32 (costF (sweepT ms ks i15).1 ks ks.length))
    have b140 := eo st hE 38 (.bool (finP [.flt .f32 r29_0, .flt .f32 r29_1, .flt .f32 r29_2]))
    have b141 := eo st hE 3 (.int .i64 (sweepT ms ks i15).2)
    have b142 := eo st hE 1 (.ptr p3 0)
    have b143 := eo st hE 4 (.int .i64 (i15 : Int))
    have b144 := eo st hE 8 (.ptr p67 0)
    have g145 : Grew H129 H136 := (gk st)
    have g146 : OnlyS S H H136 := g130.grewR g145
    have r147 := g145.at r131
    have r149 := g145.at r133
    have s150 := s129.grew g145
    have s151 := s134.grew g145
    clear st hE vs ls
    have gd152 : E136 38 = .bool true := by rw [b140]; simp only [f137, Bool.not_true, Bool.not_false]
    refine res_callg (d := (some 40)) (f := 68) (args := [.tmp 39]) (g := 38) (b := true) (r := .flt .f32 (costF ((sweepT ms ks i15).1.set i15 [.flt .f32 r29_0, .flt .f32 r29_1, .flt .f32 r29_2]) ks ks.length)) (by kernel_rfl) gd152 ?_ ?_
    ·
     show ACalls _ _ [E136 39] _ _
     rw [b138]
     exact k_cost H136 ((sweepT ms ks i15).1.set i15 [.flt .f32 r29_0, .flt .f32 r29_1, .flt .f32 r29_2]) (Recs.set (sweepT_inv hr hok i15).1 (.cons ⟨_, rfl, or29_0⟩ (.cons ⟨_, rfl, or29_1⟩ (.cons ⟨_, rfl, or29_2⟩ .nil)))) S s150.toL (by rw [List.length_set]; exact hlm40) ks hrk Sk s151.toL hmxk (okG_set (sweepT_inv hr hok i15).2.2.1 f137)
    have q153 := q135.app (.cons ⟨_, rfl, costF_ok ((sweepT ms ks i15).1.set i15 [.flt .f32 r29_0, .flt .f32 r29_1, .flt .f32 r29_2]) ks ks.length⟩ .nil : KdsL [KF] [.flt .f32 (costF ((sweepT ms ks i15).1.set i15 [.flt .f32 r29_0, .flt .f32 r29_1, .flt .f32 r29_2]) ks ks.length)])
    refine run_mc (φ := φP) (pm := pmPR 1 [] 0) 20 (ws := [⟨p3, 0, [n1 0, n1 1], false⟩, ⟨p67, 0, [nF 9, nF 10, nF 11], true⟩]) (env := [(39, .agg [n1 0, n1 1]), (7, nF 12), (38, .lit (.bool true)), (3, nI 3), (1, .ptr 0 0), (4, nI 2), (8, .ptr 1 0), (40, nF 17)]) q153 (.cons (wR r147 q153) (.cons (wO r149 q153) .nil)) (sepD (by repeat (first | exact .nil | refine .cons (by first | assumption | exact Apart.symm (by assumption)) ?_))) .nil (eC q153 (.cons (put_ne rfl b138) (.cons (put_ne rfl b139) (.cons (put_ne rfl gd152) (.cons (put_ne rfl b141) (.cons (put_ne rfl b142) (.cons (put_ne rfl b143) (.cons (put_ne rfl b144) (.cons put_same .nil))))))))) tb_ok apP_ok ?_
    refine all2 (by kernel_rfl) ?_ ?_
    ·
     intro vs ls H154 E154 st hE
     have f155 : (ford .f32 (costF ((sweepT ms ks i15).1.set i15 [.flt .f32 r29_0, .flt .f32 r29_1, .flt .f32 r29_2]) ks ks.length) (costF (sweepT ms ks i15).1 ks ks.length) == some .lt) = true := bf st 0
     obtain ⟨w156, hw156⟩ : ∃ z, z = (IntKind.wrap .i64 ((i15 : Int) + 1)) := ⟨_, rfl⟩
     have b157 : E154 4 = .int .i64 w156 := by rw [hw156]; exact eo st hE 4 _
     have b158 := eo st hE 1 (.ptr p3 0)
     obtain ⟨w159, hw159⟩ : ∃ z, z = (IntKind.wrap .i64 ((sweepT ms ks i15).2 + 1)) := ⟨_, rfl⟩
     have b160 : E154 3 = .int .i64 w159 := by rw [hw159]; exact eo st hE 3 _
     have g161 : Grew H136 H154 := (gk st)
     have g162 : OnlyS S H H154 := g146.grewR g161
     have r163 := g161.at r147
     have s165 := s150.grew g161
     have s166 := s151.grew g161
     clear st hE vs ls
     have hz9 : z15 - 1 < z15 := by omega
     have hy9 : z15 - 1 + (i15 + 1) = ms.length := by omega
     have hi9 : E154 4 = .int .i64 ((i15 + 1 : Nat) : Int) := by rw [b157, hw156, wrap64 (by omega)]
     have hn9 : sweepT ms ks (i15 + 1) = ((sweepT ms ks i15).1.set i15 [.flt .f32 r29_0, .flt .f32 r29_1, .flt .f32 r29_2], w159) := by
      show (if i15 = 0 then _ else _) = _; rw [if_neg (by omega)]; unfold swS; rw [(show (toldF (sweepT ms ks i15).1 ks (i15 : Int)).2 = true from by simpa using f43), if_pos rfl, hmr29, f137, f155, if_pos (show (true && true) = true from rfl), hw159]
      rw [wrap_i64 (by have := sweepT_inv hr hok i15; omega) (by have := sweepT_inv hr hok i15; have := okG_len hok; omega)]
     exact res_norm (by kernel_rfl) ⟨z15 - 1, hz9, i15 + 1, hy9, by omega, b158, hi9, (by rw [hn9]; exact b160), g162, r163, (by rw [hn9]; exact s165), s166⟩
    ·
     intro vs ls H167 E167 st hE
     have f168 : (ford .f32 (costF ((sweepT ms ks i15).1.set i15 [.flt .f32 r29_0, .flt .f32 r29_1, .flt .f32 r29_2]) ks ks.length) (costF (sweepT ms ks i15).1 ks ks.length) == some .lt) = false := bf st 0
     have b169 := eo st hE 47 S
     have b170 := eo st hE 48 (.int .i64 (i15 : Int))
     have b171 := eo st hE 49 (.agg [.flt .f32 v62_0, .flt .f32 v62_1, .flt .f32 v62_2])
     have b172 := eo st hE 4 (.int .i64 (i15 : Int))
     have b173 := eo st hE 1 (.ptr p3 0)
     have b174 := eo st hE 3 (.int .i64 (sweepT ms ks i15).2)
     have g175 : Grew H136 H167 := (gk st)
     have g176 : OnlyS S H H167 := g146.grewR g175
     have r177 := g175.at r147
     have s179 := s150.grew g175
     have s180 := s151.grew g175
     clear st hE vs ls
     have hlt181 : i15 < ((sweepT ms ks i15).1.set i15 [.flt .f32 r29_0, .flt .f32 r29_1, .flt .f32 r29_2]).length := by omega
     obtain ⟨lS181, cap181, rest181, wr181, eS181, gS181⟩ := (s179.toL).isSl hlt181
     have ne182 : Apart p3 lS181 := ⟨fun e => (show ApartL (S) p3 by assumption).ne ⟨0, _, _, _, by rw [e]; exact eS181⟩⟩
     obtain ⟨v181_0, v181_1, v181_2, hm181, ho181_0, ho181_1, ho181_2⟩ := partsPose ((Recs.set (sweepT_inv hr hok i15).1 (.cons ⟨_, rfl, or29_0⟩ (.cons ⟨_, rfl, or29_1⟩ (.cons ⟨_, rfl, or29_2⟩ .nil)))).get hlt181)
     have he181 : ((sweepT ms ks i15).1.set i15 [.flt .f32 r29_0, .flt .f32 r29_1, .flt .f32 r29_2]).getD i15 [] = [.flt .f32 v181_0, .flt .f32 v181_1, .flt .f32 v181_2] := by rw [← hm181, List.getD_eq_getElem?_getD, List.getElem?_eq_getElem hlt181]; rfl
     have q183 := q153.app (.cons ⟨_, rfl, ho181_0⟩ (.cons ⟨_, rfl, ho181_1⟩ (.cons ⟨_, rfl, ho181_2⟩ .nil)) : KdsL [KF, KF, KF] [.flt .f32 v181_0, .flt .f32 v181_1, .flt .f32 v181_2])
     refine run_mc (φ := φP) (pm := pmPR 2 [(.ia 3 (n1 0) (nI 2), .ptr 1 0)] 0) 20 (ws := [⟨p3, 0, [n1 0, n1 1], false⟩, ⟨lS181, (i15 * 3), [nF 18, nF 19, nF 20], false⟩]) (env := [(47, n1 0), (48, nI 2), (49, .agg [nF 9, nF 10, nF 11]), (4, nI 2), (1, .ptr 0 0), (3, nI 3)]) q183 (.cons (wR r177 q183) (.cons (win_elem (Recs.set (sweepT_inv hr hok i15).1 (.cons ⟨_, rfl, or29_0⟩ (.cons ⟨_, rfl, or29_1⟩ (.cons ⟨_, rfl, or29_2⟩ .nil)))) gS181 hlt181 rfl (by rw [hm181]; exact (dL q183))) .nil)) (sepOk_ro rfl) (.cons (rule_iaS (k := i15) (dE q183) eS181 (dE q183) hlt181 rfl) .nil) (eC q183 (.cons b169 (.cons b170 (.cons b171 (.cons b172 (.cons b173 (.cons b174 .nil))))))) tb_ok apP_ok ?_
     refine all1 (by kernel_rfl) ?_
     intro vs ls H184 E184 st hE
     have b185 := eo st hE 50 (.ptr lS181 ((i15 * 3) + 0))
     have b186 := eo st hE 49 (.agg [.flt .f32 v62_0, .flt .f32 v62_1, .flt .f32 v62_2])
     have b187 := eo st hE 4 (.int .i64 (i15 : Int))
     have b188 := eo st hE 1 (.ptr p3 0)
     have b189 := eo st hE 3 (.int .i64 (sweepT ms ks i15).2)
     have g190 : Grew H167 H184 := (gk st)
     have g191 : OnlyS S H H184 := g176.grewR g190
     have r192 := g190.at r177
     have s194 := s179.grew g190
     have s195 := s180.grew g190
     clear st hE vs ls
     refine res_storeS (d := none) (n := 3) (x := .tmp 50) (y := .tmp 49) (by kernel_rfl) (S := S) (ms := ((sweepT ms ks i15).1.set i15 [.flt .f32 r29_0, .flt .f32 r29_1, .flt .f32 r29_2])) (k := i15) (m' := [.flt .f32 v62_0, .flt .f32 v62_1, .flt .f32 v62_2]) (s194) eS181 b185 hlt181 (Recs.set (sweepT_inv hr hok i15).1 (.cons ⟨_, rfl, or29_0⟩ (.cons ⟨_, rfl, or29_1⟩ (.cons ⟨_, rfl, or29_2⟩ .nil)))).len (by show AV.cells (E184 49) = _; rw [b186]; rfl) rfl rfl rfl ?_
     intro H196 s196 oo196
     have hln196 : (((sweepT ms ks i15).1.set i15 [.flt .f32 r29_0, .flt .f32 r29_1, .flt .f32 r29_2]).set i15 [.flt .f32 v62_0, .flt .f32 v62_1, .flt .f32 v62_2]).length = ((sweepT ms ks i15).1.set i15 [.flt .f32 r29_0, .flt .f32 r29_1, .flt .f32 r29_2]).length := by simp
     have g197 : OnlyS S H H196 := g191.trans oo196
     have r198 := oo196.at r192 (by assumption)
     have s199 := s195.only oo196 (by first | assumption | exact ApartS.symm (by assumption))
     refine run_mc (φ := φP) (pm := pmPR 1 [] 0) 20 (ws := [⟨p3, 0, [n1 0, n1 1], false⟩]) (env := [(49, .agg [nF 9, nF 10, nF 11]), (4, nI 2), (1, .ptr 0 0), (3, nI 3)]) q183 (.cons (wR r198 q183) .nil) (sepOk_ro rfl) .nil (eC q183 (.cons (put_no b186) (.cons (put_no b187) (.cons (put_no b188) (.cons (put_no b189) .nil))))) tb_ok apP_ok ?_
     refine all1 (by kernel_rfl) ?_
     intro vs ls H201 E201 st hE
     obtain ⟨w202, hw202⟩ : ∃ z, z = (IntKind.wrap .i64 ((i15 : Int) + 1)) := ⟨_, rfl⟩
     have b203 : E201 4 = .int .i64 w202 := by rw [hw202]; exact eo st hE 4 _
     have b204 := eo st hE 1 (.ptr p3 0)
     have b205 := eo st hE 3 (.int .i64 (sweepT ms ks i15).2)
     have g206 : Grew H196 H201 := (gk st)
     have g207 : OnlyS S H H201 := g197.grewR g206
     have r208 := g206.at r198
     have s209 := s196.grew g206
     have s210 := s199.grew g206
     clear st hE vs ls
     have hz9 : z15 - 1 < z15 := by omega
     have hy9 : z15 - 1 + (i15 + 1) = ms.length := by omega
     have hi9 : E201 4 = .int .i64 ((i15 + 1 : Nat) : Int) := by rw [b203, hw202, wrap64 (by omega)]
     have hn9 : sweepT ms ks (i15 + 1) = ((((sweepT ms ks i15).1.set i15 [.flt .f32 r29_0, .flt .f32 r29_1, .flt .f32 r29_2]).set i15 [.flt .f32 v62_0, .flt .f32 v62_1, .flt .f32 v62_2]), (sweepT ms ks i15).2) := by
      show (if i15 = 0 then _ else _) = _; rw [if_neg (by omega)]; unfold swS; rw [(show (toldF (sweepT ms ks i15).1 ks (i15 : Int)).2 = true from by simpa using f43), if_pos rfl, hmr29, f137, f168, if_neg (by decide), set_back (by omega) he107]
     exact res_norm (by kernel_rfl) ⟨z15 - 1, hz9, i15 + 1, hy9, by omega, b204, hi9, (by rw [hn9]; exact b205), g207, r208, (by rw [hn9]; exact s209), s210⟩
   ·
    intro vs ls H211 E211 st hE
    have f212 : (finP [.flt .f32 r29_0, .flt .f32 r29_1, .flt .f32 r29_2]) = false := bf st 0
    have b213 := eo st hE 47 S
    have b214 := eo st hE 48 (.int .i64 (i15 : Int))
    have b215 := eo st hE 49 (.agg [.flt .f32 v62_0, .flt .f32 v62_1, .flt .f32 v62_2])
    have b216 := eo st hE 4 (.int .i64 (i15 : Int))
    have b217 := eo st hE 1 (.ptr p3 0)
    have b218 := eo st hE 3 (.int .i64 (sweepT ms ks i15).2)
    have g219 : Grew H129 H211 := (gk st)
    have g220 : OnlyS S H H211 := g130.grewR g219
    have r221 := g219.at r131
    have s224 := s129.grew g219
    have s225 := s134.grew g219
    clear st hE vs ls
    have hlt226 : i15 < ((sweepT ms ks i15).1.set i15 [.flt .f32 r29_0, .flt .f32 r29_1, .flt .f32 r29_2]).length := by omega
    obtain ⟨lS226, cap226, rest226, wr226, eS226, gS226⟩ := (s224.toL).isSl hlt226
    have ne227 : Apart p3 lS226 := ⟨fun e => (show ApartL (S) p3 by assumption).ne ⟨0, _, _, _, by rw [e]; exact eS226⟩⟩
    obtain ⟨v226_0, v226_1, v226_2, hm226, ho226_0, ho226_1, ho226_2⟩ := partsPose ((Recs.set (sweepT_inv hr hok i15).1 (.cons ⟨_, rfl, or29_0⟩ (.cons ⟨_, rfl, or29_1⟩ (.cons ⟨_, rfl, or29_2⟩ .nil)))).get hlt226)
    have he226 : ((sweepT ms ks i15).1.set i15 [.flt .f32 r29_0, .flt .f32 r29_1, .flt .f32 r29_2]).getD i15 [] = [.flt .f32 v226_0, .flt .f32 v226_1, .flt .f32 v226_2] := by rw [← hm226, List.getD_eq_getElem?_getD, List.getElem?_eq_getElem hlt226]; rfl
    have q228 := q135.app (.cons ⟨_, rfl, ho226_0⟩ (.cons ⟨_, rfl, ho226_1⟩ (.cons ⟨_, rfl, ho226_2⟩ .nil)) : KdsL [KF, KF, KF] [.flt .f32 v226_0, .flt .f32 v226_1, .flt .f32 v226_2])
    refine run_mc (φ := φP) (pm := pmPR 2 [(.ia 3 (n1 0) (nI 2), .ptr 1 0)] 0) 20 (ws := [⟨p3, 0, [n1 0, n1 1], false⟩, ⟨lS226, (i15 * 3), [nF 17, nF 18, nF 19], false⟩]) (env := [(47, n1 0), (48, nI 2), (49, .agg [nF 9, nF 10, nF 11]), (4, nI 2), (1, .ptr 0 0), (3, nI 3)]) q228 (.cons (wR r221 q228) (.cons (win_elem (Recs.set (sweepT_inv hr hok i15).1 (.cons ⟨_, rfl, or29_0⟩ (.cons ⟨_, rfl, or29_1⟩ (.cons ⟨_, rfl, or29_2⟩ .nil)))) gS226 hlt226 rfl (by rw [hm226]; exact (dL q228))) .nil)) (sepOk_ro rfl) (.cons (rule_iaS (k := i15) (dE q228) eS226 (dE q228) hlt226 rfl) .nil) (eC q228 (.cons b213 (.cons b214 (.cons b215 (.cons b216 (.cons b217 (.cons b218 .nil))))))) tb_ok apP_ok ?_
    refine all1 (by kernel_rfl) ?_
    intro vs ls H229 E229 st hE
    have b230 := eo st hE 50 (.ptr lS226 ((i15 * 3) + 0))
    have b231 := eo st hE 49 (.agg [.flt .f32 v62_0, .flt .f32 v62_1, .flt .f32 v62_2])
    have b232 := eo st hE 4 (.int .i64 (i15 : Int))
    have b233 := eo st hE 1 (.ptr p3 0)
    have b234 := eo st hE 3 (.int .i64 (sweepT ms ks i15).2)
    have g235 : Grew H211 H229 := (gk st)
    have g236 : OnlyS S H H229 := g220.grewR g235
    have r237 := g235.at r221
    have s239 := s224.grew g235
    have s240 := s225.grew g235
    clear st hE vs ls
    refine res_storeS (d := none) (n := 3) (x := .tmp 50) (y := .tmp 49) (by kernel_rfl) (S := S) (ms := ((sweepT ms ks i15).1.set i15 [.flt .f32 r29_0, .flt .f32 r29_1, .flt .f32 r29_2])) (k := i15) (m' := [.flt .f32 v62_0, .flt .f32 v62_1, .flt .f32 v62_2]) (s239) eS226 b230 hlt226 (Recs.set (sweepT_inv hr hok i15).1 (.cons ⟨_, rfl, or29_0⟩ (.cons ⟨_, rfl, or29_1⟩ (.cons ⟨_, rfl, or29_2⟩ .nil)))).len (by show AV.cells (E229 49) = _; rw [b231]; rfl) rfl rfl rfl ?_
    intro H241 s241 oo241
    have hln241 : (((sweepT ms ks i15).1.set i15 [.flt .f32 r29_0, .flt .f32 r29_1, .flt .f32 r29_2]).set i15 [.flt .f32 v62_0, .flt .f32 v62_1, .flt .f32 v62_2]).length = ((sweepT ms ks i15).1.set i15 [.flt .f32 r29_0, .flt .f32 r29_1, .flt .f32 r29_2]).length := by simp
    have g242 : OnlyS S H H241 := g236.trans oo241
    have r243 := oo241.at r237 (by assumption)
    have s244 := s240.only oo241 (by first | assumption | exact ApartS.symm (by assumption))
    refine run_mc (φ := φP) (pm := pmPR 1 [] 0) 20 (ws := [⟨p3, 0, [n1 0, n1 1], false⟩]) (env := [(49, .agg [nF 9, nF 10, nF 11]), (4, nI 2), (1, .ptr 0 0), (3, nI 3)]) q228 (.cons (wR r243 q228) .nil) (sepOk_ro rfl) .nil (eC q228 (.cons (put_no b231) (.cons (put_no b232) (.cons (put_no b233) (.cons (put_no b234) .nil))))) tb_ok apP_ok ?_
    refine all1 (by kernel_rfl) ?_
    intro vs ls H246 E246 st hE
    obtain ⟨w247, hw247⟩ : ∃ z, z = (IntKind.wrap .i64 ((i15 : Int) + 1)) := ⟨_, rfl⟩
    have b248 : E246 4 = .int .i64 w247 := by rw [hw247]; exact eo st hE 4 _
    have b249 := eo st hE 1 (.ptr p3 0)
    have b250 := eo st hE 3 (.int .i64 (sweepT ms ks i15).2)
    have g251 : Grew H241 H246 := (gk st)
    have g252 : OnlyS S H H246 := g242.grewR g251
    have r253 := g251.at r243
    have s254 := s241.grew g251
    have s255 := s244.grew g251
    clear st hE vs ls
    have hz9 : z15 - 1 < z15 := by omega
    have hy9 : z15 - 1 + (i15 + 1) = ms.length := by omega
    have hi9 : E246 4 = .int .i64 ((i15 + 1 : Nat) : Int) := by rw [b248, hw247, wrap64 (by omega)]
    have hn9 : sweepT ms ks (i15 + 1) = ((((sweepT ms ks i15).1.set i15 [.flt .f32 r29_0, .flt .f32 r29_1, .flt .f32 r29_2]).set i15 [.flt .f32 v62_0, .flt .f32 v62_1, .flt .f32 v62_2]), (sweepT ms ks i15).2) := by
     show (if i15 = 0 then _ else _) = _; rw [if_neg (by omega)]; unfold swS; rw [(show (toldF (sweepT ms ks i15).1 ks (i15 : Int)).2 = true from by simpa using f43), if_pos rfl, hmr29, f212, Bool.false_and, if_neg (by decide), set_back (by omega) he107]
    exact res_norm (by kernel_rfl) ⟨z15 - 1, hz9, i15 + 1, hy9, by omega, b249, hi9, (by rw [hn9]; exact b250), g252, r253, (by rw [hn9]; exact s254), s255⟩
 ·
  intro vs ls H256 E256 st hE
  have f257 : ¬ ((i15 : Int) < ((sweepT ms ks i15).1.length : Int)) := df st 0
  have b258 := eo st hE 4 (.int .i64 (i15 : Int))
  have b259 := eo st hE 1 (.ptr p3 0)
  have b260 := eo st hE 10 (.ptr p3 0)
  have b261 := eo st hE 11 S
  have b262 := eo st hE 9 (.int .i64 (i15 : Int))
  have b263 := eo st hE 12 (.int .i64 ((sweepT ms ks i15).1.length : Int))
  obtain ⟨w264, hw264⟩ : ∃ z, z = (decide ((i15 : Int) < ((sweepT ms ks i15).1.length : Int))) := ⟨_, rfl⟩
  have b265 : E256 13 = .bool w264 := by rw [hw264]; exact eo st hE 13 _
  have b266 := eo st hE 3 (.int .i64 (sweepT ms ks i15).2)
  have g267 : Grew Hi15 H256 := (gk st)
  have g268 : OnlyS S H H256 := gt15.grewR g267
  have r269 := g267.at r15_0
  have s270 := so15_0.grew g267
  clear st hE vs ls
  refine res_exit (id := 0) (by kernel_rfl) ?_
  have q272 := q16.app (.cons ⟨_, rfl⟩ .nil : KdsL [.bool] [.bool w264])
  refine run_mc (φ := φP) (pm := pmPR 1 [] 0) 20 (ws := [⟨p3, 0, [n1 0, n1 1], false⟩]) (env := [(4, nI 2), (1, .ptr 0 0), (10, .ptr 0 0), (11, n1 0), (9, nI 2), (12, nI 4), (13, nB 5), (3, nI 3)]) q272 (.cons (wR r269 q272) .nil) (sepOk_ro rfl) .nil (eC q272 (.cons b258 (.cons b259 (.cons b260 (.cons b261 (.cons b262 (.cons b263 (.cons b265 (.cons b266 .nil))))))))) tb_ok apP_ok ?_
  refine all1 (by kernel_rfl) ?_
  intro vs ls H273 E273 st hE
  have hin : i15 = ms.length := by omega
  have gz : OnlyS S H H273 := (g268.grewR (gk st))
  have sz : SlW H273 3 (sweepT ms ks i15).1 S := (s270.grew (st.inn.kept.grew (Nat.le_refl _)))
  exact res_ex (by kernel_rfl) (end_same st.inn hE (.inr rfl) (a := .int .i64 (sweepT ms ks i15).2) (by kernel_rfl) gz.next (by rw [hin] at sz; rw [hin]; exact ⟨rfl, gz, sz⟩))
theorem k_l06Sweep (H : AHeap) (ms : List (List AV)) (hr : Recs KP ms) (S : AV) (hS : SlW H 3 ms S) (hmx : ms.length < 2 ^ 40) (ks : List (List AV)) (hrk : Recs KL ks) (Sk : AV) (hSk : SlW H 6 ks Sk) (hmxk : ks.length < 2 ^ 40) (hap : ApartS S Sk) (hok : okG ms ks = true) (lg : Nat) (hg : H.get lg = some (.row [S, Sk] true)) (hal : ApartL S lg) : ACalls Try.prog 79 [.ptr lg 0] H fun r H' => r = .int .i64 (sweepF ms ks).2 ∧ OnlyS S H H' ∧ SlW H' 3 (sweepF ms ks).1 S := by
 refine res_start h_spec_l06Sweep (by simp) ?_
 have hlen0 := okG_len hok
 have q1 : KdsL [.one, .one] [S, Sk] := .cons hS.one (.cons hSk.one .nil)
 refine run_mc (φ := φP) (pm := pmPR 1 [] 0) 20 (ws := [⟨lg, 0, [n1 0, n1 1], false⟩]) (env := [(0, .ptr 0 0)]) q1 (.cons (wR hg q1) .nil) (sepOk_ro rfl) .nil (eC q1 (.cons (t := 0) rfl .nil)) tb_ok apP_ok ?_
 refine all1 (by kernel_rfl) ?_
 intro vs ls H2 E2 st hE
 have b3 := eo st hE 4 (.int .i64 1)
 have b4 := eo st hE 0 (.ptr lg 0)
 have b5 := eo st hE 3 (.int .i64 0)
 have g6 : Grew H H2 := (gk st)
 have g7 : OnlyS S H H2 := (OnlyS.of_grew (Grew.refl H)).grewR g6
 have r8 := g6.at hg
 have s9 := hS.grew g6
 have s10 := hSk.grew g6
 clear st hE vs ls
 refine res_loop (by kernel_rfl) (fun z E H' => ∃ (i : Nat), z + i = ms.length ∧ 1 ≤ i ∧ E 0 = .ptr lg 0 ∧ E 4 = .int .i64 (i : Int) ∧ E 3 = .int .i64 (sweepT ms ks i).2 ∧ OnlyS S H H' ∧ H'.get lg = some (.row [S, Sk] true) ∧ SlW H' 3 (sweepT ms ks i).1 S ∧ SlW H' 6 ks Sk) (ms.length - 1) ⟨1, by omega, by omega, b4, b3, b5, g7, r8, s9, s10⟩ ?_
 rintro z11 Ei11 Hi11 ⟨i11, hz11, hst11, c11_0, ci11, cv11_3, gt11, r11_0, so11_0, so11_1⟩
 have hlm : (sweepT ms ks i11).1.length = ms.length := (sweepT_inv hr hok i11).2.1
 have hlm40 : (sweepT ms ks i11).1.length < 2 ^ 40 := by rw [hlm]; exact hmx
 have q12 := q1.app (.cons ⟨_, rfl⟩ (.cons ⟨_, rfl⟩ (.cons ⟨_, rfl⟩ .nil)) : KdsL [KI, KI, KI] [.int .i64 (i11 : Int), .int .i64 (sweepT ms ks i11).2, .int .i64 ((sweepT ms ks i11).1.length : Int)])
 refine run_mc (φ := φP) (pm := pmPR 1 [(.len (n1 0), nI 4)] 0) 20 (ws := [⟨lg, 0, [n1 0, n1 1], false⟩]) (env := [(0, .ptr 0 0), (4, nI 2), (3, nI 3)]) q12 (.cons (wR r11_0 q12) .nil) (sepOk_ro rfl) (.cons (⟨_, _, (dE q12), (dE q12), slLen (so11_0.toL)⟩) .nil) (eC q12 (.cons c11_0 (.cons ci11 (.cons cv11_3 .nil)))) tb_ok apP_ok ?_
 refine all2 (by kernel_rfl) ?_ ?_
 ·
  intro vs ls H13 E13 st hE
  have f14 : (i11 : Int) < ((sweepT ms ks i11).1.length : Int) := dt st 0
  have b15 := eo st hE 19 (.ptr lg 0)
  have b16 := eo st hE 20 (.int .i64 (i11 : Int))
  have b17 := eo st hE 0 (.ptr lg 0)
  have b18 := eo st hE 4 (.int .i64 (i11 : Int))
  have b19 := eo st hE 3 (.int .i64 (sweepT ms ks i11).2)
  have g20 : Grew Hi11 H13 := (gk st)
  have g21 : OnlyS S H H13 := gt11.grewR g20
  have r22 := g20.at r11_0
  have s23 := so11_0.grew g20
  have s24 := so11_1.grew g20
  clear st hE vs ls
  obtain ⟨r25_0, r25_1, r25_2, hmr25, or25_0, or25_1, or25_2⟩ := partsPose (toldF_ok (sweepT ms ks i11).1 ks (i11 : Int))
  refine res_call (d := (some 21)) (f := 104) (args := [.tmp 19, .tmp 20]) (by kernel_rfl) (R := fun z H' => z = .tuple [.agg [.flt .f32 r25_0, .flt .f32 r25_1, .flt .f32 r25_2], .bool (toldF (sweepT ms ks i11).1 ks (i11 : Int)).2] ∧ H' = H13) ?_ ?_
  ·
   show ACalls _ _ [E13 19, E13 20] _ _
   rw [b15, b16]
   exact (by rw [← hmr25]; exact k_l06Told H13 (sweepT ms ks i11).1 (sweepT_inv hr hok i11).1 S s23.toL hlm40 ks hrk Sk s24.toL hmxk (sweepT_inv hr hok i11).2.2.1 i11 (by omega) lg r22)
  rintro z H13 ⟨rfl, rfl⟩
  have q26 := q12.app (.cons ⟨_, rfl, or25_0⟩ (.cons ⟨_, rfl, or25_1⟩ (.cons ⟨_, rfl, or25_2⟩ (.cons ⟨_, rfl⟩ .nil))) : KdsL [KF, KF, KF, .bool] [.flt .f32 r25_0, .flt .f32 r25_1, .flt .f32 r25_2, .bool (toldF (sweepT ms ks i11).1 ks (i11 : Int)).2])
  refine run_mc (φ := φP) (pm := pmPR 1 [] 0) 20 (ws := [⟨lg, 0, [n1 0, n1 1], false⟩]) (env := [(19, .ptr 0 0), (20, nI 2), (0, .ptr 0 0), (4, nI 2), (3, nI 3), (21, .tup [.agg [nF 5, nF 6, nF 7], nB 8])]) q26 (.cons (wR r22 q26) .nil) (sepOk_ro rfl) .nil (eC q26 (.cons (put_ne rfl b15) (.cons (put_ne rfl b16) (.cons (put_ne rfl b17) (.cons (put_ne rfl b18) (.cons (put_ne rfl b19) (.cons put_same .nil))))))) tb_ok apP_ok ?_
  refine all2 (by kernel_rfl) ?_ ?_
  ·
   intro vs ls H27 E27 st hE
   have f28 : (toldF (sweepT ms ks i11).1 ks (i11 : Int)).2 = false := bf st 0
   obtain ⟨w29, hw29⟩ : ∃ z, z = (IntKind.wrap .i64 ((i11 : Int) + 1)) := ⟨_, rfl⟩
   have b30 : E27 4 = .int .i64 w29 := by rw [hw29]; exact eo st hE 4 _
   have b31 := eo st hE 0 (.ptr lg 0)
   have b32 := eo st hE 3 (.int .i64 (sweepT ms ks i11).2)
   have g33 : Grew H13 H27 := (gk st)
   have g34 : OnlyS S H H27 := g21.grewR g33
   have r35 := g33.at r22
   have s36 := s23.grew g33
   have s37 := s24.grew g33
   clear st hE vs ls
   have hz9 : z11 - 1 < z11 := by omega
   have hy9 : z11 - 1 + (i11 + 1) = ms.length := by omega
   have hi9 : E27 4 = .int .i64 ((i11 + 1 : Nat) : Int) := by rw [b30, hw29, wrap64 (by omega)]
   have hn9 : sweepT ms ks (i11 + 1) = sweepT ms ks i11 := by
    show (if i11 = 0 then _ else _) = _; rw [if_neg (by omega)]; unfold swS; rw [(show (toldF (sweepT ms ks i11).1 ks (i11 : Int)).2 = false from by simpa using f28)]; rfl
   exact res_norm (by kernel_rfl) ⟨z11 - 1, hz9, i11 + 1, hy9, by omega, b31, hi9, (by rw [hn9]; exact b32), g34, r35, (by rw [hn9]; exact s36), s37⟩
  ·
   intro vs ls H38 E38 st hE
   have f39 : (toldF (sweepT ms ks i11).1 ks (i11 : Int)).2 = true := bf st 0
   obtain ⟨p40, e41, r42, n43⟩ := ptr_of st.inn hE 5 1 (by kernel_rfl) (ds := [.flt .f32 r25_0, .flt .f32 r25_1, .flt .f32 r25_2]) (by kernel_rfl)
   have op40 : H.next ≤ p40 := Nat.le_trans g21.next (n43 (Nat.le_of_ble_eq_true rfl))
   have ne44 := apn r22 (n43 (Nat.le_of_ble_eq_true rfl))
   have ne45 : ApartL (S) p40 := s23.apart_new (n43 (Nat.le_of_ble_eq_true rfl))
   have ne46 : ApartL (Sk) p40 := s24.apart_new (n43 (Nat.le_of_ble_eq_true rfl))
   have b47 := eo st hE 26 (.ptr lg 0)
   have b48 := eo st hE 0 (.ptr lg 0)
   have b49 := eo st hE 4 (.int .i64 (i11 : Int))
   have b50 := eo st hE 3 (.int .i64 (sweepT ms ks i11).2)
   have g51 : Grew H13 H38 := (gk st)
   have g52 : OnlyS S H H38 := g21.grewR g51
   have r53 := g51.at r22
   have s54 := s23.grew g51
   have s55 := s24.grew g51
   clear st hE vs ls
   refine res_call (d := (some 27)) (f := 67) (args := [.tmp 26]) (by kernel_rfl) (R := fun z H' => z = .flt .f32 (costF (sweepT ms ks i11).1 ks ks.length) ∧ H' = H38) ?_ ?_
   ·
    show ACalls _ _ [E38 26] _ _
    rw [b47]
    exact k_l06Cost H38 (sweepT ms ks i11).1 (sweepT_inv hr hok i11).1 S s54.toL hlm40 ks hrk Sk s55.toL hmxk (sweepT_inv hr hok i11).2.2.1 lg r53
   rintro z H38 ⟨rfl, rfl⟩
   have q56 := q26.app (.cons ⟨_, rfl, costF_ok (sweepT ms ks i11).1 ks ks.length⟩ .nil : KdsL [KF] [.flt .f32 (costF (sweepT ms ks i11).1 ks ks.length)])
   refine run_mc (φ := φP) (pm := pmPR 2 [] 0) 20 (ws := [⟨lg, 0, [n1 0, n1 1], false⟩, ⟨p40, 0, [nF 5, nF 6, nF 7], false⟩]) (env := [(26, .ptr 0 0), (0, .ptr 0 0), (4, nI 2), (5, .ptr 1 0), (3, nI 3), (27, nF 9)]) q56 (.cons (wR r53 q56) (.cons (wR r42 q56) .nil)) (sepOk_ro rfl) .nil (eC q56 (.cons (put_ne rfl b47) (.cons (put_ne rfl b48) (.cons (put_ne rfl b49) (.cons (put_ne rfl e41) (.cons (put_ne rfl b50) (.cons put_same .nil))))))) tb_ok apP_ok ?_
   refine all1 (by kernel_rfl) ?_
   intro vs ls H57 E57 st hE
   have b58 := eo st hE 31 S
   have b59 := eo st hE 32 (.int .i64 (i11 : Int))
   have b60 := eo st hE 0 (.ptr lg 0)
   have b61 := eo st hE 4 (.int .i64 (i11 : Int))
   have b62 := eo st hE 5 (.ptr p40 0)
   have b63 := eo st hE 7 (.flt .f32 (costF (sweepT ms ks i11).1 ks ks.length))
   have b64 := eo st hE 3 (.int .i64 (sweepT ms ks i11).2)
   have g65 : Grew H38 H57 := (gk st)
   have g66 : OnlyS S H H57 := g52.grewR g65
   have r67 := g65.at r53
   have r68 := g65.at r42
   have s69 := s54.grew g65
   have s70 := s55.grew g65
   clear st hE vs ls
   have hlt71 : i11 < (sweepT ms ks i11).1.length := by omega
   obtain ⟨lS71, cap71, rest71, wr71, eS71, gS71⟩ := (s69.toL).isSl hlt71
   have ne72 : Apart lg lS71 := ⟨fun e => (show ApartL (S) lg by assumption).ne ⟨0, _, _, _, by rw [e]; exact eS71⟩⟩
   have ne73 : Apart p40 lS71 := ⟨fun e => (show ApartL (S) p40 by assumption).ne ⟨0, _, _, _, by rw [e]; exact eS71⟩⟩
   obtain ⟨v71_0, v71_1, v71_2, hm71, ho71_0, ho71_1, ho71_2⟩ := partsPose ((sweepT_inv hr hok i11).1.get hlt71)
   have he71 : (sweepT ms ks i11).1.getD i11 [] = [.flt .f32 v71_0, .flt .f32 v71_1, .flt .f32 v71_2] := by rw [← hm71, List.getD_eq_getElem?_getD, List.getElem?_eq_getElem hlt71]; rfl
   have q74 := q56.app (.cons ⟨_, rfl, ho71_0⟩ (.cons ⟨_, rfl, ho71_1⟩ (.cons ⟨_, rfl, ho71_2⟩ .nil)) : KdsL [KF, KF, KF] [.flt .f32 v71_0, .flt .f32 v71_1, .flt .f32 v71_2])
   refine run_mc (φ := φP) (pm := pmPR 3 [(.ia 3 (n1 0) (nI 2), .ptr 2 0)] 0) 20 (ws := [⟨lg, 0, [n1 0, n1 1], false⟩, ⟨p40, 0, [nF 5, nF 6, nF 7], false⟩, ⟨lS71, (i11 * 3), [nF 10, nF 11, nF 12], false⟩]) (env := [(31, n1 0), (32, nI 2), (0, .ptr 0 0), (4, nI 2), (5, .ptr 1 0), (7, nF 9), (3, nI 3)]) q74 (.cons (wR r67 q74) (.cons (wR r68 q74) (.cons (win_elem (sweepT_inv hr hok i11).1 gS71 hlt71 rfl (by rw [hm71]; exact (dL q74))) .nil))) (sepOk_ro rfl) (.cons (rule_iaS (k := i11) (dE q74) eS71 (dE q74) hlt71 rfl) .nil) (eC q74 (.cons b58 (.cons b59 (.cons b60 (.cons b61 (.cons b62 (.cons b63 (.cons b64 .nil)))))))) tb_ok apP_ok ?_
   refine all1 (by kernel_rfl) ?_
   intro vs ls H75 E75 st hE
   obtain ⟨p76, e77, r78, n79⟩ := ptr_of st.inn hE 8 3 (by kernel_rfl) (ds := [.flt .f32 v71_0, .flt .f32 v71_1, .flt .f32 v71_2]) (by kernel_rfl)
   have op76 : H.next ≤ p76 := Nat.le_trans g66.next (n79 (Nat.le_of_ble_eq_true rfl))
   have ne80 := apn r67 (n79 (Nat.le_of_ble_eq_true rfl))
   have ne81 := apn r68 (n79 (Nat.le_of_ble_eq_true rfl))
   have ne82 := apn gS71 (n79 (Nat.le_of_ble_eq_true rfl))
   have ne83 : ApartL (S) p76 := s69.apart_new (n79 (Nat.le_of_ble_eq_true rfl))
   have ne84 : ApartL (Sk) p76 := s70.apart_new (n79 (Nat.le_of_ble_eq_true rfl))
   have b85 := eo st hE 41 (.ptr lS71 ((i11 * 3) + 0))
   have b86 := eo st hE 40 (.agg [.flt .f32 r25_0, .flt .f32 r25_1, .flt .f32 r25_2])
   have b87 := eo st hE 5 (.ptr p40 0)
   have b88 := eo st hE 0 (.ptr lg 0)
   have b89 := eo st hE 7 (.flt .f32 (costF (sweepT ms ks i11).1 ks ks.length))
   have b90 := eo st hE 3 (.int .i64 (sweepT ms ks i11).2)
   have b91 := eo st hE 4 (.int .i64 (i11 : Int))
   have g92 : Grew H57 H75 := (gk st)
   have g93 : OnlyS S H H75 := g66.grewR g92
   have r94 := g92.at r67
   have r95 := g92.at r68
   have s97 := s69.grew g92
   have s98 := s70.grew g92
   clear st hE vs ls
   refine res_storeSK (d := none) (n := 3) (x := .tmp 41) (y := .tmp 40) (by kernel_rfl) (S := S) (ms := (sweepT ms ks i11).1) (k := i11) (m' := [.flt .f32 r25_0, .flt .f32 r25_1, .flt .f32 r25_2]) (s97) eS71 b85 hlt71 (sweepT_inv hr hok i11).1.len (by show AV.cells (E75 40) = _; rw [b86]; rfl) rfl rfl rfl ?_
   intro H99 s99 oo99
   have hln99 : ((sweepT ms ks i11).1.set i11 [.flt .f32 r25_0, .flt .f32 r25_1, .flt .f32 r25_2]).length = (sweepT ms ks i11).1.length := by simp
   have g100 : OnlyS S H H99 := g93.trans oo99
   have r101 := oo99.at r94 (by assumption)
   have r102 := oo99.at r95 (by assumption)
   have r103 := oo99.at r78 (by assumption)
   have s104 := s98.only oo99 (by first | assumption | exact ApartS.symm (by assumption))
   have q105 := q74.app (.cons ⟨_, rfl⟩ .nil : KdsL [.bool] [.bool (finP [.flt .f32 r25_0, .flt .f32 r25_1, .flt .f32 r25_2])])
   refine run_mc (φ := φP) (pm := pmPR 3 [(.call 87 [.agg [nF 5, nF 6, nF 7]], nB 13)] 0) 20 (ws := [⟨lg, 0, [n1 0, n1 1], false⟩, ⟨p40, 0, [nF 5, nF 6, nF 7], false⟩, ⟨p76, 0, [nF 10, nF 11, nF 12], false⟩]) (env := [(40, .agg [nF 5, nF 6, nF 7]), (5, .ptr 1 0), (0, .ptr 0 0), (7, nF 9), (3, nI 3), (4, nI 2), (8, .ptr 2 0)]) q105 (.cons (wR r101 q105) (.cons (wR r102 q105) (.cons (wR r103 q105) .nil))) (sepOk_ro rfl) (.cons (rule_call (args := [.agg [.flt .f32 r25_0, .flt .f32 r25_1, .flt .f32 r25_2]]) (dL q105) (dE q105) (fun H9 hk => k_l06Finite [.flt .f32 r25_0, .flt .f32 r25_1, .flt .f32 r25_2] (.cons ⟨_, rfl, or25_0⟩ (.cons ⟨_, rfl, or25_1⟩ (.cons ⟨_, rfl, or25_2⟩ .nil))) H9)) .nil) (eC q105 (.cons (put_no b86) (.cons (put_no b87) (.cons (put_no b88) (.cons (put_no b89) (.cons (put_no b90) (.cons (put_no b91) (.cons (put_no e77) .nil)))))))) tb_ok apP_ok ?_
   refine all2 (by kernel_rfl) ?_ ?_
   ·
    intro vs ls H106 E106 st hE
    have f107 : (finP [.flt .f32 r25_0, .flt .f32 r25_1, .flt .f32 r25_2]) = true := bf st 0
    have b108 := eo st hE 45 (.ptr lg 0)
    have b109 := eo st hE 7 (.flt .f32 (costF (sweepT ms ks i11).1 ks ks.length))
    have b110 := eo st hE 44 (.bool (finP [.flt .f32 r25_0, .flt .f32 r25_1, .flt .f32 r25_2]))
    have b111 := eo st hE 3 (.int .i64 (sweepT ms ks i11).2)
    have b112 := eo st hE 0 (.ptr lg 0)
    have b113 := eo st hE 4 (.int .i64 (i11 : Int))
    have b114 := eo st hE 8 (.ptr p76 0)
    have g115 : Grew H99 H106 := (gk st)
    have g116 : OnlyS S H H106 := g100.grewR g115
    have r117 := g115.at r101
    have r119 := g115.at r103
    have s120 := s99.grew g115
    have s121 := s104.grew g115
    clear st hE vs ls
    have gd122 : E106 44 = .bool true := by rw [b110]; simp only [f107, Bool.not_true, Bool.not_false]
    refine res_callg (d := (some 46)) (f := 67) (args := [.tmp 45]) (g := 44) (b := true) (r := .flt .f32 (costF ((sweepT ms ks i11).1.set i11 [.flt .f32 r25_0, .flt .f32 r25_1, .flt .f32 r25_2]) ks ks.length)) (by kernel_rfl) gd122 ?_ ?_
    ·
     show ACalls _ _ [E106 45] _ _
     rw [b108]
     exact k_l06Cost H106 ((sweepT ms ks i11).1.set i11 [.flt .f32 r25_0, .flt .f32 r25_1, .flt .f32 r25_2]) (Recs.set (sweepT_inv hr hok i11).1 (.cons ⟨_, rfl, or25_0⟩ (.cons ⟨_, rfl, or25_1⟩ (.cons ⟨_, rfl, or25_2⟩ .nil)))) S s120.toL (by rw [List.length_set]; exact hlm40) ks hrk Sk s121.toL hmxk (okG_set (sweepT_inv hr hok i11).2.2.1 f107) lg r117
    have q123 := q105.app (.cons ⟨_, rfl, costF_ok ((sweepT ms ks i11).1.set i11 [.flt .f32 r25_0, .flt .f32 r25_1, .flt .f32 r25_2]) ks ks.length⟩ .nil : KdsL [KF] [.flt .f32 (costF ((sweepT ms ks i11).1.set i11 [.flt .f32 r25_0, .flt .f32 r25_1, .flt .f32 r25_2]) ks ks.length)])
    refine run_mc (φ := φP) (pm := pmPR 2 [] 0) 20 (ws := [⟨lg, 0, [n1 0, n1 1], false⟩, ⟨p76, 0, [nF 10, nF 11, nF 12], false⟩]) (env := [(45, .ptr 0 0), (7, nF 9), (44, .lit (.bool true)), (3, nI 3), (0, .ptr 0 0), (4, nI 2), (8, .ptr 1 0), (46, nF 14)]) q123 (.cons (wR r117 q123) (.cons (wR r119 q123) .nil)) (sepOk_ro rfl) .nil (eC q123 (.cons (put_ne rfl b108) (.cons (put_ne rfl b109) (.cons (put_ne rfl gd122) (.cons (put_ne rfl b111) (.cons (put_ne rfl b112) (.cons (put_ne rfl b113) (.cons (put_ne rfl b114) (.cons put_same .nil))))))))) tb_ok apP_ok ?_
    refine all2 (by kernel_rfl) ?_ ?_
    ·
     intro vs ls H124 E124 st hE
     have f125 : (ford .f32 (costF ((sweepT ms ks i11).1.set i11 [.flt .f32 r25_0, .flt .f32 r25_1, .flt .f32 r25_2]) ks ks.length) (costF (sweepT ms ks i11).1 ks ks.length) == some .lt) = true := bf st 0
     obtain ⟨w126, hw126⟩ : ∃ z, z = (IntKind.wrap .i64 ((i11 : Int) + 1)) := ⟨_, rfl⟩
     have b127 : E124 4 = .int .i64 w126 := by rw [hw126]; exact eo st hE 4 _
     have b128 := eo st hE 0 (.ptr lg 0)
     obtain ⟨w129, hw129⟩ : ∃ z, z = (IntKind.wrap .i64 ((sweepT ms ks i11).2 + 1)) := ⟨_, rfl⟩
     have b130 : E124 3 = .int .i64 w129 := by rw [hw129]; exact eo st hE 3 _
     have g131 : Grew H106 H124 := (gk st)
     have g132 : OnlyS S H H124 := g116.grewR g131
     have r133 := g131.at r117
     have s135 := s120.grew g131
     have s136 := s121.grew g131
     clear st hE vs ls
     have hz9 : z11 - 1 < z11 := by omega
     have hy9 : z11 - 1 + (i11 + 1) = ms.length := by omega
     have hi9 : E124 4 = .int .i64 ((i11 + 1 : Nat) : Int) := by rw [b127, hw126, wrap64 (by omega)]
     have hn9 : sweepT ms ks (i11 + 1) = ((sweepT ms ks i11).1.set i11 [.flt .f32 r25_0, .flt .f32 r25_1, .flt .f32 r25_2], w129) := by
      show (if i11 = 0 then _ else _) = _; rw [if_neg (by omega)]; unfold swS; rw [(show (toldF (sweepT ms ks i11).1 ks (i11 : Int)).2 = true from by simpa using f39), if_pos rfl, hmr25, f107, f125, if_pos (show (true && true) = true from rfl), hw129]
      rw [wrap_i64 (by have := sweepT_inv hr hok i11; omega) (by have := sweepT_inv hr hok i11; have := okG_len hok; omega)]
     exact res_norm (by kernel_rfl) ⟨z11 - 1, hz9, i11 + 1, hy9, by omega, b128, hi9, (by rw [hn9]; exact b130), g132, r133, (by rw [hn9]; exact s135), s136⟩
    ·
     intro vs ls H137 E137 st hE
     have f138 : (ford .f32 (costF ((sweepT ms ks i11).1.set i11 [.flt .f32 r25_0, .flt .f32 r25_1, .flt .f32 r25_2]) ks ks.length) (costF (sweepT ms ks i11).1 ks ks.length) == some .lt) = false := bf st 0
     have b139 := eo st hE 55 S
     have b140 := eo st hE 56 (.int .i64 (i11 : Int))
     have b141 := eo st hE 57 (.agg [.flt .f32 v71_0, .flt .f32 v71_1, .flt .f32 v71_2])
     have b142 := eo st hE 4 (.int .i64 (i11 : Int))
     have b143 := eo st hE 0 (.ptr lg 0)
     have b144 := eo st hE 3 (.int .i64 (sweepT ms ks i11).2)
     have g145 : Grew H106 H137 := (gk st)
     have g146 : OnlyS S H H137 := g116.grewR g145
     have r147 := g145.at r117
     have s149 := s120.grew g145
     have s150 := s121.grew g145
     clear st hE vs ls
     have hlt151 : i11 < ((sweepT ms ks i11).1.set i11 [.flt .f32 r25_0, .flt .f32 r25_1, .flt .f32 r25_2]).length := by omega
     obtain ⟨lS151, cap151, rest151, wr151, eS151, gS151⟩ := (s149.toL).isSl hlt151
     have ne152 : Apart lg lS151 := ⟨fun e => (show ApartL (S) lg by assumption).ne ⟨0, _, _, _, by rw [e]; exact eS151⟩⟩
     obtain ⟨v151_0, v151_1, v151_2, hm151, ho151_0, ho151_1, ho151_2⟩ := partsPose ((Recs.set (sweepT_inv hr hok i11).1 (.cons ⟨_, rfl, or25_0⟩ (.cons ⟨_, rfl, or25_1⟩ (.cons ⟨_, rfl, or25_2⟩ .nil)))).get hlt151)
     have he151 : ((sweepT ms ks i11).1.set i11 [.flt .f32 r25_0, .flt .f32 r25_1, .flt .f32 r25_2]).getD i11 [] = [.flt .f32 v151_0, .flt .f32 v151_1, .flt .f32 v151_2] := by rw [← hm151, List.getD_eq_getElem?_getD, List.getElem?_eq_getElem hlt151]; rfl
     have q153 := q123.app (.cons ⟨_, rfl, ho151_0⟩ (.cons ⟨_, rfl, ho151_1⟩ (.cons ⟨_, rfl, ho151_2⟩ .nil)) : KdsL [KF, KF, KF] [.flt .f32 v151_0, .flt .f32 v151_1, .flt .f32 v151_2])
     refine run_mc (φ := φP) (pm := pmPR 2 [(.ia 3 (n1 0) (nI 2), .ptr 1 0)] 0) 20 (ws := [⟨lg, 0, [n1 0, n1 1], false⟩, ⟨lS151, (i11 * 3), [nF 15, nF 16, nF 17], false⟩]) (env := [(55, n1 0), (56, nI 2), (57, .agg [nF 10, nF 11, nF 12]), (4, nI 2), (0, .ptr 0 0), (3, nI 3)]) q153 (.cons (wR r147 q153) (.cons (win_elem (Recs.set (sweepT_inv hr hok i11).1 (.cons ⟨_, rfl, or25_0⟩ (.cons ⟨_, rfl, or25_1⟩ (.cons ⟨_, rfl, or25_2⟩ .nil)))) gS151 hlt151 rfl (by rw [hm151]; exact (dL q153))) .nil)) (sepOk_ro rfl) (.cons (rule_iaS (k := i11) (dE q153) eS151 (dE q153) hlt151 rfl) .nil) (eC q153 (.cons b139 (.cons b140 (.cons b141 (.cons b142 (.cons b143 (.cons b144 .nil))))))) tb_ok apP_ok ?_
     refine all1 (by kernel_rfl) ?_
     intro vs ls H154 E154 st hE
     have b155 := eo st hE 58 (.ptr lS151 ((i11 * 3) + 0))
     have b156 := eo st hE 57 (.agg [.flt .f32 v71_0, .flt .f32 v71_1, .flt .f32 v71_2])
     have b157 := eo st hE 4 (.int .i64 (i11 : Int))
     have b158 := eo st hE 0 (.ptr lg 0)
     have b159 := eo st hE 3 (.int .i64 (sweepT ms ks i11).2)
     have g160 : Grew H137 H154 := (gk st)
     have g161 : OnlyS S H H154 := g146.grewR g160
     have r162 := g160.at r147
     have s164 := s149.grew g160
     have s165 := s150.grew g160
     clear st hE vs ls
     refine res_storeSK (d := none) (n := 3) (x := .tmp 58) (y := .tmp 57) (by kernel_rfl) (S := S) (ms := ((sweepT ms ks i11).1.set i11 [.flt .f32 r25_0, .flt .f32 r25_1, .flt .f32 r25_2])) (k := i11) (m' := [.flt .f32 v71_0, .flt .f32 v71_1, .flt .f32 v71_2]) (s164) eS151 b155 hlt151 (Recs.set (sweepT_inv hr hok i11).1 (.cons ⟨_, rfl, or25_0⟩ (.cons ⟨_, rfl, or25_1⟩ (.cons ⟨_, rfl, or25_2⟩ .nil)))).len (by show AV.cells (E154 57) = _; rw [b156]; rfl) rfl rfl rfl ?_
     intro H166 s166 oo166
     have hln166 : (((sweepT ms ks i11).1.set i11 [.flt .f32 r25_0, .flt .f32 r25_1, .flt .f32 r25_2]).set i11 [.flt .f32 v71_0, .flt .f32 v71_1, .flt .f32 v71_2]).length = ((sweepT ms ks i11).1.set i11 [.flt .f32 r25_0, .flt .f32 r25_1, .flt .f32 r25_2]).length := by simp
     have g167 : OnlyS S H H166 := g161.trans oo166
     have r168 := oo166.at r162 (by assumption)
     have s169 := s165.only oo166 (by first | assumption | exact ApartS.symm (by assumption))
     refine run_mc (φ := φP) (pm := pmPR 1 [] 0) 20 (ws := [⟨lg, 0, [n1 0, n1 1], false⟩]) (env := [(57, .agg [nF 10, nF 11, nF 12]), (4, nI 2), (0, .ptr 0 0), (3, nI 3)]) q153 (.cons (wR r168 q153) .nil) (sepOk_ro rfl) .nil (eC q153 (.cons (put_no b156) (.cons (put_no b157) (.cons (put_no b158) (.cons (put_no b159) .nil))))) tb_ok apP_ok ?_
     refine all1 (by kernel_rfl) ?_
     intro vs ls H171 E171 st hE
     obtain ⟨w172, hw172⟩ : ∃ z, z = (IntKind.wrap .i64 ((i11 : Int) + 1)) := ⟨_, rfl⟩
     have b173 : E171 4 = .int .i64 w172 := by rw [hw172]; exact eo st hE 4 _
     have b174 := eo st hE 0 (.ptr lg 0)
     have b175 := eo st hE 3 (.int .i64 (sweepT ms ks i11).2)
     have g176 : Grew H166 H171 := (gk st)
     have g177 : OnlyS S H H171 := g167.grewR g176
     have r178 := g176.at r168
     have s179 := s166.grew g176
     have s180 := s169.grew g176
     clear st hE vs ls
     have hz9 : z11 - 1 < z11 := by omega
     have hy9 : z11 - 1 + (i11 + 1) = ms.length := by omega
     have hi9 : E171 4 = .int .i64 ((i11 + 1 : Nat) : Int) := by rw [b173, hw172, wrap64 (by omega)]
     have hn9 : sweepT ms ks (i11 + 1) = ((((sweepT ms ks i11).1.set i11 [.flt .f32 r25_0, .flt .f32 r25_1, .flt .f32 r25_2]).set i11 [.flt .f32 v71_0, .flt .f32 v71_1, .flt .f32 v71_2]), (sweepT ms ks i11).2) := by
      show (if i11 = 0 then _ else _) = _; rw [if_neg (by omega)]; unfold swS; rw [(show (toldF (sweepT ms ks i11).1 ks (i11 : Int)).2 = true from by simpa using f39), if_pos rfl, hmr25, f107, f138, if_neg (by decide), set_back (by omega) he71]
     exact res_norm (by kernel_rfl) ⟨z11 - 1, hz9, i11 + 1, hy9, by omega, b174, hi9, (by rw [hn9]; exact b175), g177, r178, (by rw [hn9]; exact s179), s180⟩
   ·
    intro vs ls H181 E181 st hE
    have f182 : (finP [.flt .f32 r25_0, .flt .f32 r25_1, .flt .f32 r25_2]) = false := bf st 0
    have b183 := eo st hE 55 S
    have b184 := eo st hE 56 (.int .i64 (i11 : Int))
    have b185 := eo st hE 57 (.agg [.flt .f32 v71_0, .flt .f32 v71_1, .flt .f32 v71_2])
    have b186 := eo st hE 4 (.int .i64 (i11 : Int))
    have b187 := eo st hE 0 (.ptr lg 0)
    have b188 := eo st hE 3 (.int .i64 (sweepT ms ks i11).2)
    have g189 : Grew H99 H181 := (gk st)
    have g190 : OnlyS S H H181 := g100.grewR g189
    have r191 := g189.at r101
    have s194 := s99.grew g189
    have s195 := s104.grew g189
    clear st hE vs ls
    have hlt196 : i11 < ((sweepT ms ks i11).1.set i11 [.flt .f32 r25_0, .flt .f32 r25_1, .flt .f32 r25_2]).length := by omega
    obtain ⟨lS196, cap196, rest196, wr196, eS196, gS196⟩ := (s194.toL).isSl hlt196
    have ne197 : Apart lg lS196 := ⟨fun e => (show ApartL (S) lg by assumption).ne ⟨0, _, _, _, by rw [e]; exact eS196⟩⟩
    obtain ⟨v196_0, v196_1, v196_2, hm196, ho196_0, ho196_1, ho196_2⟩ := partsPose ((Recs.set (sweepT_inv hr hok i11).1 (.cons ⟨_, rfl, or25_0⟩ (.cons ⟨_, rfl, or25_1⟩ (.cons ⟨_, rfl, or25_2⟩ .nil)))).get hlt196)
    have he196 : ((sweepT ms ks i11).1.set i11 [.flt .f32 r25_0, .flt .f32 r25_1, .flt .f32 r25_2]).getD i11 [] = [.flt .f32 v196_0, .flt .f32 v196_1, .flt .f32 v196_2] := by rw [← hm196, List.getD_eq_getElem?_getD, List.getElem?_eq_getElem hlt196]; rfl
    have q198 := q105.app (.cons ⟨_, rfl, ho196_0⟩ (.cons ⟨_, rfl, ho196_1⟩ (.cons ⟨_, rfl, ho196_2⟩ .nil)) : KdsL [KF, KF, KF] [.flt .f32 v196_0, .flt .f32 v196_1, .flt .f32 v196_2])
    refine run_mc (φ := φP) (pm := pmPR 2 [(.ia 3 (n1 0) (nI 2), .ptr 1 0)] 0) 20 (ws := [⟨lg, 0, [n1 0, n1 1], false⟩, ⟨lS196, (i11 * 3), [nF 14, nF 15, nF 16], false⟩]) (env := [(55, n1 0), (56, nI 2), (57, .agg [nF 10, nF 11, nF 12]), (4, nI 2), (0, .ptr 0 0), (3, nI 3)]) q198 (.cons (wR r191 q198) (.cons (win_elem (Recs.set (sweepT_inv hr hok i11).1 (.cons ⟨_, rfl, or25_0⟩ (.cons ⟨_, rfl, or25_1⟩ (.cons ⟨_, rfl, or25_2⟩ .nil)))) gS196 hlt196 rfl (by rw [hm196]; exact (dL q198))) .nil)) (sepOk_ro rfl) (.cons (rule_iaS (k := i11) (dE q198) eS196 (dE q198) hlt196 rfl) .nil) (eC q198 (.cons b183 (.cons b184 (.cons b185 (.cons b186 (.cons b187 (.cons b188 .nil))))))) tb_ok apP_ok ?_
    refine all1 (by kernel_rfl) ?_
    intro vs ls H199 E199 st hE
    have b200 := eo st hE 58 (.ptr lS196 ((i11 * 3) + 0))
    have b201 := eo st hE 57 (.agg [.flt .f32 v71_0, .flt .f32 v71_1, .flt .f32 v71_2])
    have b202 := eo st hE 4 (.int .i64 (i11 : Int))
    have b203 := eo st hE 0 (.ptr lg 0)
    have b204 := eo st hE 3 (.int .i64 (sweepT ms ks i11).2)
    have g205 : Grew H181 H199 := (gk st)
    have g206 : OnlyS S H H199 := g190.grewR g205
    have r207 := g205.at r191
    have s209 := s194.grew g205
    have s210 := s195.grew g205
    clear st hE vs ls
    refine res_storeSK (d := none) (n := 3) (x := .tmp 58) (y := .tmp 57) (by kernel_rfl) (S := S) (ms := ((sweepT ms ks i11).1.set i11 [.flt .f32 r25_0, .flt .f32 r25_1, .flt .f32 r25_2])) (k := i11) (m' := [.flt .f32 v71_0, .flt .f32 v71_1, .flt .f32 v71_2]) (s209) eS196 b200 hlt196 (Recs.set (sweepT_inv hr hok i11).1 (.cons ⟨_, rfl, or25_0⟩ (.cons ⟨_, rfl, or25_1⟩ (.cons ⟨_, rfl, or25_2⟩ .nil)))).len (by show AV.cells (E199 57) = _; rw [b201]; rfl) rfl rfl rfl ?_
    intro H211 s211 oo211
    have hln211 : (((sweepT ms ks i11).1.set i11 [.flt .f32 r25_0, .flt .f32 r25_1, .flt .f32 r25_2]).set i11 [.flt .f32 v71_0, .flt .f32 v71_1, .flt .f32 v71_2]).length = ((sweepT ms ks i11).1.set i11 [.flt .f32 r25_0, .flt .f32 r25_1, .flt .f32 r25_2]).length := by simp
    have g212 : OnlyS S H H211 := g206.trans oo211
    have r213 := oo211.at r207 (by assumption)
    have s214 := s210.only oo211 (by first | assumption | exact ApartS.symm (by assumption))
    refine run_mc (φ := φP) (pm := pmPR 1 [] 0) 20 (ws := [⟨lg, 0, [n1 0, n1 1], false⟩]) (env := [(57, .agg [nF 10, nF 11, nF 12]), (4, nI 2), (0, .ptr 0 0), (3, nI 3)]) q198 (.cons (wR r213 q198) .nil) (sepOk_ro rfl) .nil (eC q198 (.cons (put_no b201) (.cons (put_no b202) (.cons (put_no b203) (.cons (put_no b204) .nil))))) tb_ok apP_ok ?_
    refine all1 (by kernel_rfl) ?_
    intro vs ls H216 E216 st hE
    obtain ⟨w217, hw217⟩ : ∃ z, z = (IntKind.wrap .i64 ((i11 : Int) + 1)) := ⟨_, rfl⟩
    have b218 : E216 4 = .int .i64 w217 := by rw [hw217]; exact eo st hE 4 _
    have b219 := eo st hE 0 (.ptr lg 0)
    have b220 := eo st hE 3 (.int .i64 (sweepT ms ks i11).2)
    have g221 : Grew H211 H216 := (gk st)
    have g222 : OnlyS S H H216 := g212.grewR g221
    have r223 := g221.at r213
    have s224 := s211.grew g221
    have s225 := s214.grew g221
    clear st hE vs ls
    have hz9 : z11 - 1 < z11 := by omega
    have hy9 : z11 - 1 + (i11 + 1) = ms.length := by omega
    have hi9 : E216 4 = .int .i64 ((i11 + 1 : Nat) : Int) := by rw [b218, hw217, wrap64 (by omega)]
    have hn9 : sweepT ms ks (i11 + 1) = ((((sweepT ms ks i11).1.set i11 [.flt .f32 r25_0, .flt .f32 r25_1, .flt .f32 r25_2]).set i11 [.flt .f32 v71_0, .flt .f32 v71_1, .flt .f32 v71_2]), (sweepT ms ks i11).2) := by
     show (if i11 = 0 then _ else _) = _; rw [if_neg (by omega)]; unfold swS; rw [(show (toldF (sweepT ms ks i11).1 ks (i11 : Int)).2 = true from by simpa using f39), if_pos rfl, hmr25, f182, Bool.false_and, if_neg (by decide), set_back (by omega) he71]
    exact res_norm (by kernel_rfl) ⟨z11 - 1, hz9, i11 + 1, hy9, by omega, b219, hi9, (by rw [hn9]; exact b220), g222, r223, (by rw [hn9]; exact s224), s225⟩
 ·
  intro vs ls H226 E226 st hE
  have f227 : ¬ ((i11 : Int) < ((sweepT ms ks i11).1.length : Int)) := df st 0
  have b228 := eo st hE 4 (.int .i64 (i11 : Int))
  have b229 := eo st hE 0 (.ptr lg 0)
  have b230 := eo st hE 10 (.ptr lg 0)
  have b231 := eo st hE 11 (.ptr lg 0)
  have b232 := eo st hE 12 (.ptr lg 0)
  have b233 := eo st hE 13 S
  have b234 := eo st hE 9 (.int .i64 (i11 : Int))
  have b235 := eo st hE 14 (.int .i64 ((sweepT ms ks i11).1.length : Int))
  obtain ⟨w236, hw236⟩ : ∃ z, z = (decide ((i11 : Int) < ((sweepT ms ks i11).1.length : Int))) := ⟨_, rfl⟩
  have b237 : E226 15 = .bool w236 := by rw [hw236]; exact eo st hE 15 _
  have b238 := eo st hE 3 (.int .i64 (sweepT ms ks i11).2)
  have g239 : Grew Hi11 H226 := (gk st)
  have g240 : OnlyS S H H226 := gt11.grewR g239
  have r241 := g239.at r11_0
  have s242 := so11_0.grew g239
  clear st hE vs ls
  refine res_exit (id := 0) (by kernel_rfl) ?_
  have q244 := q12.app (.cons ⟨_, rfl⟩ .nil : KdsL [.bool] [.bool w236])
  refine run_mc (φ := φP) (pm := pmPR 1 [] 0) 20 (ws := [⟨lg, 0, [n1 0, n1 1], false⟩]) (env := [(4, nI 2), (0, .ptr 0 0), (10, .ptr 0 0), (11, .ptr 0 0), (12, .ptr 0 0), (13, n1 0), (9, nI 2), (14, nI 4), (15, nB 5), (3, nI 3)]) q244 (.cons (wR r241 q244) .nil) (sepOk_ro rfl) .nil (eC q244 (.cons b228 (.cons b229 (.cons b230 (.cons b231 (.cons b232 (.cons b233 (.cons b234 (.cons b235 (.cons b237 (.cons b238 .nil))))))))))) tb_ok apP_ok ?_
  refine all1 (by kernel_rfl) ?_
  intro vs ls H245 E245 st hE
  have hin : i11 = ms.length := by omega
  have gz : OnlyS S H H245 := (g240.grewR (gk st))
  have sz : SlW H245 3 (sweepT ms ks i11).1 S := (s242.grew (st.inn.kept.grew (Nat.le_refl _)))
  exact res_ex (by kernel_rfl) (end_same st.inn hE (.inr rfl) (a := .int .i64 (sweepT ms ks i11).2) (by kernel_rfl) gz.next (by rw [hin] at sz; rw [hin]; exact ⟨rfl, gz, sz⟩))
end Go.Proofs.Ytcmoeocemmeofaa
