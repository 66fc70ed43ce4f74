/- Contracts: how far poses are apart, by the program. -/
import Derived.Test.YtcmoeocemmeofaaTApart
import Derived.Test.YtcmoeocemmeofaaSxE
set_option linter.unusedVariables false
set_option linter.unusedSimpArgs false
namespace Go.Proofs.Ytcmoeocemmeofaa
open Go.Ab
set_option maxRecDepth 100000
set_option maxHeartbeats 1000000
attribute [local irreducible] Res
theorem k_impl_Apart1 (H : AHeap) (ms : List (List AV)) (hr : Recs KP ms) (S : AV) (hS : SlL H 3 ms S) (hmx : ms.length < 2 ^ 40) (ks : List (List AV)) (hrk : Recs KL ks) (Sk : AV) (hSk : SlL H 6 ks Sk) (hmxk : ks.length < 2 ^ 40) (a b : Nat) (ha : a < ms.length) (hb : b < ms.length) : APure Try.prog 33 [.agg [S, Sk], .int .i64 (a : Int), .int .i64 (b : Int)] H (.tuple [.int .i64 (apartG ms ks (a : Int) (b : Int)).1, .int .i64 (apartG ms ks (a : Int) (b : Int)).2]) := by
 refine res_start h_impl_LinksApart (by simp) ?_
 have q1 : KdsL [.one, .one, KI, KI, KI, .bool] [S, Sk, .int .i64 (a : Int), .int .i64 (b : Int), .int .i64 (ms.length : Int), .bool (okG ms ks)] := .cons (slOne hS) (.cons (slOne hSk) (.cons ⟨_, rfl⟩ (.cons ⟨_, rfl⟩ (.cons ⟨_, rfl⟩ (.cons ⟨_, rfl⟩ .nil)))))
 refine run_mc (φ := φ0) (pm := pmR 0 [(.len (n1 0), nI 4), (.call 64 [.agg [n1 0, n1 1]], nB 5)] 0) 20 (ws := []) (env := [(0, .agg [n1 0, n1 1]), (1, nI 2), (2, nI 3)]) q1 .nil (sepOk_ro rfl) (.cons (⟨_, _, (dE q1), (dE q1), slLen hS⟩) (.cons (rule_call (args := [.agg [S, Sk]]) (dL q1) (dE q1) (fun H9 hk => k_impl_ValidGraph H9 ms hr S (hS.grew (Grew.trans (Grew.refl _) (hk.grew (Nat.le_refl _)))) hmx ks hrk Sk (hSk.grew (Grew.trans (Grew.refl _) (hk.grew (Nat.le_refl _)))) hmxk)) .nil)) (eC q1 (.cons (t := 0) rfl (.cons (t := 1) rfl (.cons (t := 2) rfl .nil)))) tb_ok ap_ok ?_
 refine all6 (by kernel_rfl) ?_ ?_ ?_ ?_ ?_ ?_
 ·
  intro vs ls H2 E2 st hE
  have f3 : (okG ms ks) = false := bf st 0
  -- LEAF .int .i64 1 .int .i64 0
  refine res_ex (by kernel_rfl) (end_flat st.inn hE (.inr rfl) (a := .tuple [.int .i64 0, .int .i64 1]) (by kernel_rfl) (Grew.trans (Grew.refl _) (gk st)) rfl ⟨?_, rfl⟩)
  unfold apartG; rw [if_neg (by rw [f3]; decide)]
 ·
  intro vs ls H4 E4 st hE
  have f5 : (IntKind.wrap .i64 ((ms.length : Int) - 1)) < (a : Int) := dt st 0
  rw [show IntKind.i64.wrap ((ms.length : Int) - 1) = (ms.length : Int) - 1 from wrap_i64 (by omega) (by omega)] at f5
  have f6 : ¬ ((a : Int) < 0) := df st 1
  have f7 : (okG ms ks) = true := bf st 2
  have hok := f7
  have hlen0 := okG_lenA hok
  have hes := esK_lt hok hrk
  -- LEAF .int .i64 2 .int .i64 0
  exfalso; omega
 ·
  intro vs ls H8 E8 st hE
  have f9 : (IntKind.wrap .i64 ((ms.length : Int) - 1)) < (b : Int) := dt st 0
  rw [show IntKind.i64.wrap ((ms.length : Int) - 1) = (ms.length : Int) - 1 from wrap_i64 (by omega) (by omega)] at f9
  have f10 : ¬ ((b : Int) < 0) := df st 1
  have f11 : ¬ ((IntKind.wrap .i64 ((ms.length : Int) - 1)) < (a : Int)) := df st 2
  rw [show IntKind.i64.wrap ((ms.length : Int) - 1) = (ms.length : Int) - 1 from wrap_i64 (by omega) (by omega)] at f11
  have f12 : ¬ ((a : Int) < 0) := df st 3
  have f13 : (okG ms ks) = true := bf st 4
  have hok := f13
  have hlen0 := okG_lenA hok
  have hes := esK_lt hok hrk
  -- LEAF .int .i64 2 .int .i64 0
  exfalso; omega
 ·
  intro vs ls H14 E14 st hE
  have f15 : ¬ ((IntKind.wrap .i64 ((ms.length : Int) - 1)) < (b : Int)) := df st 0
  rw [show IntKind.i64.wrap ((ms.length : Int) - 1) = (ms.length : Int) - 1 from wrap_i64 (by omega) (by omega)] at f15
  have f16 : ¬ ((b : Int) < 0) := df st 1
  have f17 : ¬ ((IntKind.wrap .i64 ((ms.length : Int) - 1)) < (a : Int)) := df st 2
  rw [show IntKind.i64.wrap ((ms.length : Int) - 1) = (ms.length : Int) - 1 from wrap_i64 (by omega) (by omega)] at f17
  have f18 : ¬ ((a : Int) < 0) := df st 3
  have f19 : (okG ms ks) = true := bf st 4
  have hok := f19
  have hlen0 := okG_lenA hok
  have hes := esK_lt hok hrk
  obtain ⟨p20, e21, r22, n23⟩ := ptr_of st.inn hE 3 0 (by kernel_rfl) (ds := [S, Sk]) (by kernel_rfl)
  have op20 : H.next ≤ p20 := Nat.le_trans (Nat.le_refl _) (n23 (Nat.le_of_ble_eq_true rfl))
  have b24 := eo st hE 1 (.int .i64 (a : Int))
  have b25 := eo st hE 2 (.int .i64 (b : Int))
  have g26 : Grew H H14 := (gk st)
  have g27 : Grew H H14 := Grew.trans (Grew.refl _) g26
  clear st hE vs ls
  refine res_map (d := some 36) (by kernel_rfl) ?_
  intro lm28 H28 slm28 nlm28 gH28
  have fzlm28 : FreshS H14.next (.slice lm28 0 0 0 1) := FreshS.of_le nlm28
  have ne29 : ApartL (.slice lm28 0 0 0 1) p20 := fzlm28.apartL (H14.lt_of_get r22)
  have flm28 : FreshS H.next (.slice lm28 0 0 0 1) := fzlm28.mono g27.next
  have g30 : Grew H H28 := Grew.trans g27 gH28
  have r31 := gH28.at r22
  have q32 := q1.app (.cons rfl .nil : KdsL [.one] [.map lm28])
  refine run_mc (φ := φ0) (pm := pmR 1 [] 0) 20 (ws := [⟨p20, 0, [n1 0, n1 1], false⟩]) (env := [(1, nI 2), (2, nI 3), (3, .ptr 0 0), (36, n1 6)]) q32 (.cons (wR r31 q32) .nil) (sepOk_ro rfl) .nil (eC q32 (.cons (put_ne rfl b24) (.cons (put_ne rfl b25) (.cons (put_ne rfl e21) (.cons put_same .nil))))) tb_ok ap_ok ?_
  refine all1 (by kernel_rfl) ?_
  intro vs ls H33 E33 st hE
  have b34 := eo st hE 36 (.map lm28)
  have b35 := eo st hE 37 (.int .i64 (a : Int))
  have b36 := eo st hE 1 (.int .i64 (a : Int))
  have b37 := eo st hE 2 (.int .i64 (b : Int))
  have b38 := eo st hE 3 (.ptr p20 0)
  have g39 : Grew H28 H33 := (gk st)
  have g40 : Grew H H33 := Grew.trans g30 g39
  have r41 := g39.at r31
  have s42 := slm28.grew g39
  clear st hE vs ls
  refine res_upd (x := .tmp 36) (y := .tmp 37) (z := .const (.int .i64 0)) (by kernel_rfl) (v := a) (d := 0) (fl := []) b34 s42 b35 rfl (by simp) ?_
  intro H43 s43 oo43
  have g44 : Grew H H43 := OnlyS.own g40 flm28 oo43
  have r45 := oo43.at r41 (by assumption)
  refine run_mc (φ := φ0) (pm := pmR 1 [] 0) 20 (ws := [⟨p20, 0, [n1 0, n1 1], false⟩]) (env := [(36, n1 6), (37, nI 2), (1, nI 2), (2, nI 3), (3, .ptr 0 0)]) q32 (.cons (wR r45 q32) .nil) (sepOk_ro rfl) .nil (eC q32 (.cons (put_no b34) (.cons (put_no b35) (.cons (put_no b36) (.cons (put_no b37) (.cons (put_no b38) .nil)))))) tb_ok ap_ok ?_
  refine all1 (by kernel_rfl) ?_
  intro vs ls H47 E47 st hE
  obtain ⟨p48, e49, r50, n51⟩ := sl_of st.inn hE 10 1 1 1 1 (by kernel_rfl) (ds := [.int .i64 (a : Int)]) (by kernel_rfl)
  have op48 : H.next ≤ p48 := Nat.le_trans g44.next (n51 (Nat.le_of_ble_eq_true rfl))
  have ne52 := apn r45 (n51 (Nat.le_of_ble_eq_true rfl))
  have ne53 : ApartL ((.slice lm28 0 0 0 1)) p48 := s43.apart_new (n51 (Nat.le_of_ble_eq_true rfl))
  have b54 := eo st hE 2 (.int .i64 (b : Int))
  have b55 := eo st hE 9 (.map lm28)
  have b56 := eo st hE 3 (.ptr p20 0)
  have g57 : Grew H43 H47 := (gk st)
  have g58 : Grew H H47 := Grew.trans g44 g57
  have r59 := g57.at r45
  have s60 := s43.grew g57
  clear st hE vs ls
  refine res_loop (by kernel_rfl) (fun z E H' => ∃ (i : Nat) (acc61_0 : AV), z + i = ms.length ∧ E 2 = .int .i64 (b : Int) ∧ E 9 = .map lm28 ∧ E 3 = .ptr p20 0 ∧ E 10 = acc61_0 ∧ Grew H H' ∧ H'.get p20 = some (.row [S, Sk] true) ∧ SlV H' 1 (qT (bfsT (esK ks) a i) i) acc61_0 ∧ FreshS H.next acc61_0 ∧ ApartL acc61_0 p20 ∧ ApartS acc61_0 (.slice lm28 0 0 0 1) ∧ MpF H' (bfsT (esK ks) a i) (.slice lm28 0 0 0 1) ∧ (∀ j, j < i → ∀ q, (bfsT (esK ks) a i)[j]? = some q → q.1 ≠ b)) (ms.length) ⟨0, .slice p48 0 1 1 1, by omega, b54, b55, b56, e49, g58, r59, (.sl (pre := []) (by simpa [qT, bfsT] using r50) rfl (Nat.le_refl _) rfl), (FreshS.of_le op48), (ApartL.of (by first | assumption | exact Apart.symm (by assumption))), (ApartS.of (by assumption)), s60, (fun j hj => by omega)⟩ ?_
  rintro z61 Ei61 Hi61 ⟨i61, acc61_0, hz61, c61_2, c61_9, c61_3, ca61_0, gt61, r61_0, s61_0, f61_0, ap61_0_0, apo61_0_0, so61_0, iv61⟩
  have hB := bfsT_inv ha hes i61
  have hBl := bfsT_len ha hes i61
  have hql := qT_len (bfsT (esK ks) a i61) i61
  have q62 := q32.app (.cons s61_0.one (.cons ⟨_, rfl⟩ .nil) : KdsL [.one, KI] [acc61_0, .int .i64 ((qT (bfsT (esK ks) a i61) i61).length : Int)])
  refine run_mc (φ := φ0) (pm := pmR 1 [(.len (n1 7), nI 8)] 0) 20 (ws := [⟨p20, 0, [n1 0, n1 1], false⟩]) (env := [(2, nI 3), (9, n1 6), (3, .ptr 0 0), (10, n1 7)]) q62 (.cons (wR r61_0 q62) .nil) (sepOk_ro rfl) (.cons (⟨_, _, (dE q62), (dE q62), s61_0.len⟩) .nil) (eC q62 (.cons c61_2 (.cons c61_9 (.cons c61_3 (.cons ca61_0 .nil))))) tb_ok ap_ok ?_
  refine all2 (by kernel_rfl) ?_ ?_
  ·
   intro vs ls H63 E63 st hE
   have f64 : 0 < ((qT (bfsT (esK ks) a i61) i61).length : Int) := dt st 0
   have b65 := eo st hE 46 acc61_0
   have b66 := eo st hE 2 (.int .i64 (b : Int))
   have b67 := eo st hE 9 (.map lm28)
   have b68 := eo st hE 3 (.ptr p20 0)
   have b69 := eo st hE 10 acc61_0
   have g70 : Grew Hi61 H63 := (gk st)
   have g71 : Grew H H63 := Grew.trans gt61 g70
   have r72 := g70.at r61_0
   have s73 := s61_0.grew g70
   have s74 := so61_0.grew g70
   clear st hE vs ls
   obtain ⟨p, hp⟩ : ∃ p, (bfsT (esK ks) a i61)[i61]? = some p := ⟨_, List.getElem?_eq_getElem (by omega)⟩
   have hkl := get_lt hp
   obtain ⟨lq75, oq75, nq75, cq75, pre75, post75, eS75, gS75, hq75, n075⟩ := (s73).head hp
   have ne76 : Apart p20 lq75 := ⟨fun e => (show ApartL (acc61_0) p20 by assumption).ne ⟨_, _, _, _, by rw [e]; exact eS75⟩⟩
   have q77 := q62.app (.cons ⟨_, rfl⟩ (.cons ⟨_, rfl⟩ .nil) : KdsL [KI, KI] [.int .i64 (p.1 : Int), .int .i64 (ks.length : Int)])
   refine run_mc (φ := φ0) (pm := pmR 2 [(.ia 1 (n1 7) (.lit (.int .i64 0)), .ptr 1 0), (.len (n1 1), nI 10)] 0) 20 (ws := [⟨p20, 0, [n1 0, n1 1], false⟩, ⟨lq75, oq75, [nI 9], false⟩]) (env := [(46, n1 7), (2, nI 3), (9, n1 6), (3, .ptr 0 0), (10, n1 7)]) q77 (.cons (wR r72 q77) (.cons (win_mid gS75 hq75 (dL q77)) .nil)) (sepOk_ro rfl) (.cons (rule_iaO (dE q77) eS75 (dE q77) n075 rfl) (.cons (⟨_, _, (dE q77), (dE q77), slLen hSk⟩) .nil)) (eC q77 (.cons b65 (.cons b66 (.cons b67 (.cons b68 (.cons b69 .nil)))))) tb_ok ap_ok ?_
   refine all2 (by kernel_rfl) ?_ ?_
   ·
    intro vs ls H78 E78 st hE
    have f79 : (p.1 : Int) = (b : Int) := dt st 0
    have b80 := eo st hE 52 (.map lm28)
    have b81 := eo st hE 53 (.int .i64 (b : Int))
    have b82 := eo st hE 3 (.ptr p20 0)
    have b83 := eo st hE 11 (.int .i64 (p.1 : Int))
    have b84 := eo st hE 9 (.map lm28)
    have b85 := eo st hE 10 acc61_0
    have b86 := eo st hE 2 (.int .i64 (b : Int))
    have g87 : Grew H63 H78 := (gk st)
    have g88 : Grew H H78 := Grew.trans g71 g87
    have r89 := g87.at r72
    have s92 := s74.grew g87
    clear st hE vs ls
    have hmem : (b, p.2) ∈ (bfsT (esK ks) a i61) := by rw [show b = p.1 by omega]; exact List.mem_of_getElem? hp
    refine res_look (d := some 54) (by kernel_rfl) (look0 (z := .int .i64 0) b80 s92 b81 hB.1.nd hmem) ?_
    have q93 := q77.app (.cons ⟨_, rfl⟩ .nil : KdsL [KI] [.int .i64 (p.2 : Int)])
    refine run_mc (φ := φ0) (pm := pmR 1 [] 0) 20 (ws := [⟨p20, 0, [n1 0, n1 1], false⟩]) (env := [(52, n1 6), (53, nI 3), (3, .ptr 0 0), (11, nI 9), (9, n1 6), (10, n1 7), (2, nI 3), (54, nI 11)]) q93 (.cons (wR r89 q93) .nil) (sepOk_ro rfl) .nil (eC q93 (.cons (put_ne rfl b80) (.cons (put_ne rfl b81) (.cons (put_ne rfl b82) (.cons (put_ne rfl b83) (.cons (put_ne rfl b84) (.cons (put_ne rfl b85) (.cons (put_ne rfl b86) (.cons put_same .nil))))))))) tb_ok ap_ok ?_
    refine all1 (by kernel_rfl) ?_
    intro vs ls H94 E94 st hE
    -- LEAF .int .i64 0 .int .i64 (p.2 : Int)
    refine res_ret (by kernel_rfl) (end_flat st.inn hE (.inr rfl) (a := .tuple [.int .i64 (p.2 : Int), .int .i64 0]) (by kernel_rfl) (Grew.trans g88 (gk st)) rfl ⟨?_, rfl⟩)
    unfold apartG; rw [if_pos f19, if_pos ⟨⟨by omega, by omega⟩, by omega, by omega⟩, show ((a : Nat) : Int).toNat = a from rfl, show ((b : Nat) : Int).toNat = b from rfl]
    rw [show b = p.1 by omega, apart_found ha hes hp]
   ·
    intro vs ls H95 E95 st hE
    have f96 : ¬ ((p.1 : Int) = (b : Int)) := df st 0
    have b97 := eo st hE 58 (.int .i64 0)
    have b98 := eo st hE 57 (.int .i64 (ks.length : Int))
    have b99 := eo st hE 56 Sk
    have b100 := eo st hE 11 (.int .i64 (p.1 : Int))
    have b101 := eo st hE 9 (.map lm28)
    have b102 := eo st hE 10 acc61_0
    have b103 := eo st hE 2 (.int .i64 (b : Int))
    have b104 := eo st hE 3 (.ptr p20 0)
    have g105 : Grew H63 H95 := (gk st)
    have g106 : Grew H H95 := Grew.trans g71 g105
    have r107 := g105.at r72
    have s109 := s73.grew g105
    have s110 := s74.grew g105
    clear st hE vs ls
    refine res_loop (by kernel_rfl) (fun z E H' => ∃ (i : Nat) (acc111_0 : AV), z + i = ks.length ∧ E 57 = .int .i64 (ks.length : Int) ∧ E 56 = Sk ∧ E 11 = .int .i64 (p.1 : Int) ∧ E 9 = .map lm28 ∧ E 2 = .int .i64 (b : Int) ∧ E 3 = .ptr p20 0 ∧ E 58 = .int .i64 (i : Int) ∧ E 10 = acc111_0 ∧ Grew H H' ∧ H'.get p20 = some (.row [S, Sk] true) ∧ SlV H' 1 (qT (rowB (esK ks) p (bfsT (esK ks) a i61) i) i61) acc111_0 ∧ FreshS H.next acc111_0 ∧ ApartL acc111_0 p20 ∧ ApartS acc111_0 (.slice lm28 0 0 0 1) ∧ MpF H' (rowB (esK ks) p (bfsT (esK ks) a i61) i) (.slice lm28 0 0 0 1)) (ks.length) ⟨0, acc61_0, by omega, b98, b99, b100, b101, b103, b104, b97, b102, g106, r107, s109, f61_0, (by assumption), (by first | assumption | exact ApartS.symm (by assumption)), s110⟩ ?_
    rintro z111 Ei111 Hi111 ⟨i111, acc111_0, hz111, c111_57, c111_56, c111_11, c111_9, c111_2, c111_3, ci111, ca111_0, gt111, r111_0, s111_0, f111_0, ap111_0_0, apo111_0_0, so111_0⟩
    obtain ⟨hI, hIk, hIt, ⟨tI, hIe⟩, _⟩ := rowB_inv hB.1 hp (hB.2.1 p hp) hes i111 (by rw [esK_len]; omega)
    have hIl := nodup_le ms.length _ hI.nd (fun x hx => by obtain ⟨p, hp, rfl⟩ := List.mem_map.1 hx; exact hI.lt p hp)
    rw [List.length_map] at hIl
    have hIp := hI.le i61 p hIk
    have q112 := q77.app (.cons ⟨_, rfl⟩ (.cons s111_0.one .nil) : KdsL [KI, .one] [.int .i64 (i111 : Int), acc111_0])
    refine run_mc (φ := φ0) (pm := pmR 1 [] 0) 20 (ws := [⟨p20, 0, [n1 0, n1 1], false⟩]) (env := [(57, nI 10), (56, n1 1), (11, nI 9), (9, n1 6), (2, nI 3), (3, .ptr 0 0), (58, nI 11), (10, n1 12)]) q112 (.cons (wR r111_0 q112) .nil) (sepOk_ro rfl) .nil (eC q112 (.cons c111_57 (.cons c111_56 (.cons c111_11 (.cons c111_9 (.cons c111_2 (.cons c111_3 (.cons ci111 (.cons ca111_0 .nil))))))))) tb_ok ap_ok ?_
    refine all2 (by kernel_rfl) ?_ ?_
    ·
     intro vs ls H113 E113 st hE
     have f114 : (i111 : Int) < (ks.length : Int) := dt st 0
     have b115 := eo st hE 56 Sk
     have b116 := eo st hE 58 (.int .i64 (i111 : Int))
     have b117 := eo st hE 11 (.int .i64 (p.1 : Int))
     have b118 := eo st hE 9 (.map lm28)
     have b119 := eo st hE 10 acc111_0
     have b120 := eo st hE 2 (.int .i64 (b : Int))
     have b121 := eo st hE 3 (.ptr p20 0)
     have b122 := eo st hE 57 (.int .i64 (ks.length : Int))
     have g123 : Grew Hi111 H113 := (gk st)
     have g124 : Grew H H113 := Grew.trans gt111 g123
     have r125 := g123.at r111_0
     have s126 := s111_0.grew g123
     have s127 := so111_0.grew g123
     clear st hE vs ls
     have hlt128 : i111 < ks.length := by omega
     obtain ⟨lS128, cap128, rest128, wr128, eS128, gB128⟩ := hSk.isSl hlt128
     have gS128 := g124.at gB128
     have ne129 := apn gB128 op20
     have ne130 : ApartL (acc111_0) lS128 := f111_0.apartL (H.lt_of_get gB128)
     have ne131 : ApartL ((.slice lm28 0 0 0 1)) lS128 := flm28.apartL (H.lt_of_get gB128)
     obtain ⟨v128_0, v128_1, v128_2, v128_3, v128_4, v128_5, hm128, ho128_2, ho128_3, ho128_4, ho128_5, ha128, hb128, hne128⟩ := okG_linkA hok hrk i111 hlt128
     have he128 : ks.getD i111 [] = [.int .i64 (v128_0 : Int), .int .i64 (v128_1 : Int), .flt .f32 v128_2, .flt .f32 v128_3, .flt .f32 v128_4, .flt .f32 v128_5] := by rw [← hm128, List.getD_eq_getElem?_getD, List.getElem?_eq_getElem hlt128]; rfl
     have q132 := q112.app (.cons ⟨_, rfl⟩ (.cons ⟨_, rfl⟩ (.cons ⟨_, rfl, ho128_2⟩ (.cons ⟨_, rfl, ho128_3⟩ (.cons ⟨_, rfl, ho128_4⟩ (.cons ⟨_, rfl, ho128_5⟩ .nil))))) : KdsL [KI, KI, KF, KF, KF, KF] [.int .i64 (v128_0 : Int), .int .i64 (v128_1 : Int), .flt .f32 v128_2, .flt .f32 v128_3, .flt .f32 v128_4, .flt .f32 v128_5])
     refine run_mc (φ := φ0) (pm := pmR 2 [(.ia 6 (n1 1) (nI 11), .ptr 1 0)] 0) 20 (ws := [⟨p20, 0, [n1 0, n1 1], false⟩, ⟨lS128, (i111 * 6), [nI 13, nI 14, nF 15, nF 16, nF 17, nF 18], false⟩]) (env := [(56, n1 1), (58, nI 11), (11, nI 9), (9, n1 6), (10, n1 12), (2, nI 3), (3, .ptr 0 0), (57, nI 10)]) q132 (.cons (wR r125 q132) (.cons (win_elem hrk gS128 hlt128 rfl (by rw [hm128]; exact (dL q132))) .nil)) (sepOk_ro rfl) (.cons (rule_iaS (k := i111) (dE q132) eS128 (dE q132) hlt128 rfl) .nil) (eC q132 (.cons b115 (.cons b116 (.cons b117 (.cons b118 (.cons b119 (.cons b120 (.cons b121 (.cons b122 .nil))))))))) tb_ok ap_ok ?_
     refine all3 (by kernel_rfl) ?_ ?_ ?_
     ·
      intro vs ls H133 E133 st hE
      have f134 : (p.1 : Int) = (v128_0 : Int) := dt st 0
      have b135 := eo st hE 76 (.map lm28)
      have b136 := eo st hE 77 (.int .i64 (v128_1 : Int))
      have b137 := eo st hE 9 (.map lm28)
      have b138 := eo st hE 14 (.int .i64 (v128_1 : Int))
      have b139 := eo st hE 11 (.int .i64 (p.1 : Int))
      have b140 := eo st hE 10 acc111_0
      have b141 := eo st hE 58 (.int .i64 (i111 : Int))
      have b142 := eo st hE 2 (.int .i64 (b : Int))
      have b143 := eo st hE 3 (.ptr p20 0)
      have b144 := eo st hE 57 (.int .i64 (ks.length : Int))
      have b145 := eo st hE 56 Sk
      have g146 : Grew H113 H133 := (gk st)
      have g147 : Grew H H133 := Grew.trans g124 g146
      have r148 := g146.at r125
      have s150 := s126.grew g146
      have s151 := s127.grew g146
      clear st hE vs ls
      rcases Classical.em (v128_1 ∈ ((rowB (esK ks) p (bfsT (esK ks) a i61) i111)).map Prod.fst) with hin | hout
      ·
       obtain ⟨q9, hq9, eq9⟩ := List.mem_map.1 hin
       refine res_look (d := some 78) (by kernel_rfl) (look1 (z := .int .i64 0) b135 s151 b136 hI.nd (d := q9.2) (by rw [← eq9]; exact hq9)) ?_
       have q152 := q132.app (.cons ⟨_, rfl⟩ .nil : KdsL [KI] [.int .i64 (q9.2 : Int)])
       refine run_mc (φ := φ0) (pm := pmR 1 [] 0) 20 (ws := [⟨p20, 0, [n1 0, n1 1], false⟩]) (env := [(76, n1 6), (77, nI 14), (9, n1 6), (14, nI 14), (11, nI 9), (10, n1 12), (58, nI 11), (2, nI 3), (3, .ptr 0 0), (57, nI 10), (56, n1 1), (78, .tup [nI 19, .lit (.bool true)])]) q152 (.cons (wR r148 q152) .nil) (sepOk_ro rfl) .nil (eC q152 (.cons (put_ne rfl b135) (.cons (put_ne rfl b136) (.cons (put_ne rfl b137) (.cons (put_ne rfl b138) (.cons (put_ne rfl b139) (.cons (put_ne rfl b140) (.cons (put_ne rfl b141) (.cons (put_ne rfl b142) (.cons (put_ne rfl b143) (.cons (put_ne rfl b144) (.cons (put_ne rfl b145) (.cons put_same .nil))))))))))))) tb_ok ap_ok ?_
       refine all1 (by kernel_rfl) ?_
       intro vs ls H153 E153 st hE
       obtain ⟨w154, hw154⟩ : ∃ z, z = (IntKind.wrap .i64 ((i111 : Int) + 1)) := ⟨_, rfl⟩
       have b155 : E153 58 = .int .i64 w154 := by rw [hw154]; exact eo st hE 58 _
       have b156 := eo st hE 57 (.int .i64 (ks.length : Int))
       have b157 := eo st hE 56 Sk
       have b158 := eo st hE 11 (.int .i64 (p.1 : Int))
       have b159 := eo st hE 9 (.map lm28)
       have b160 := eo st hE 2 (.int .i64 (b : Int))
       have b161 := eo st hE 3 (.ptr p20 0)
       have b162 := eo st hE 10 acc111_0
       have g163 : Grew H133 H153 := (gk st)
       have g164 : Grew H H153 := Grew.trans g147 g163
       have r165 := g163.at r148
       have s166 := s150.grew g163
       have s167 := s151.grew g163
       clear st hE vs ls
       have hz9 : z111 - 1 < z111 := by omega
       have hy9 : z111 - 1 + (i111 + 1) = ks.length := by omega
       have hi9 : E153 58 = .int .i64 ((i111 + 1 : Nat) : Int) := by rw [b155, hw154, wrap64 (by omega)]
       have hst : (rowB (esK ks) p (bfsT (esK ks) a i61) (i111 + 1)) = (rowB (esK ks) p (bfsT (esK ks) a i61) i111) := by
        show stepB p _ ((esK ks).getD i111 (0, 0)) = _
        rw [esK_get hlt128 he128]
        unfold stepB
        first | rw [show nextE p.1 (v128_0, v128_1) = some v128_1 from if_pos (by omega)] | rw [show nextE p.1 (v128_0, v128_1) = some v128_0 from by unfold nextE; rw [if_neg (by omega), if_pos (by omega)]] | rw [show nextE p.1 (v128_0, v128_1) = none from by unfold nextE; rw [if_neg (by omega), if_neg (by omega)]]
        all_goals first | rfl | exact if_pos hin
       have hsq : qT (rowB (esK ks) p (bfsT (esK ks) a i61) (i111 + 1)) i61 = (qT (rowB (esK ks) p (bfsT (esK ks) a i61) i111) i61) := by rw [hst]
       exact res_norm (by kernel_rfl) ⟨z111 - 1, hz9, i111 + 1, acc111_0, hy9, b156, b157, b158, b159, b160, b161, hi9, b162, g164, r165, (by rw [hsq]; exact s166), f111_0, (by assumption), (by first | assumption | exact ApartS.symm (by assumption)), (by rw [hst]; exact s167)⟩
      ·
       refine res_look (d := some 78) (by kernel_rfl) (look2 b135 s151 b136 hout) ?_
       refine run_mc (φ := φ0) (pm := pmR 1 [] 0) 20 (ws := [⟨p20, 0, [n1 0, n1 1], false⟩]) (env := [(76, n1 6), (77, nI 14), (9, n1 6), (14, nI 14), (11, nI 9), (10, n1 12), (58, nI 11), (2, nI 3), (3, .ptr 0 0), (57, nI 10), (56, n1 1), (78, .tup [.lit (.int .i64 0), .lit (.bool false)])]) q132 (.cons (wR r148 q132) .nil) (sepOk_ro rfl) .nil (eC q132 (.cons (put_ne rfl b135) (.cons (put_ne rfl b136) (.cons (put_ne rfl b137) (.cons (put_ne rfl b138) (.cons (put_ne rfl b139) (.cons (put_ne rfl b140) (.cons (put_ne rfl b141) (.cons (put_ne rfl b142) (.cons (put_ne rfl b143) (.cons (put_ne rfl b144) (.cons (put_ne rfl b145) (.cons put_same .nil))))))))))))) tb_ok ap_ok ?_
       refine all1 (by kernel_rfl) ?_
       intro vs ls H169 E169 st hE
       have b170 := eo st hE 85 (.map lm28)
       have b171 := eo st hE 86 (.int .i64 (p.1 : Int))
       have b172 := eo st hE 83 (.map lm28)
       have b173 := eo st hE 84 (.int .i64 (v128_1 : Int))
       have b174 := eo st hE 10 acc111_0
       have b175 := eo st hE 14 (.int .i64 (v128_1 : Int))
       have b176 := eo st hE 58 (.int .i64 (i111 : Int))
       have b177 := eo st hE 2 (.int .i64 (b : Int))
       have b178 := eo st hE 9 (.map lm28)
       have b179 := eo st hE 3 (.ptr p20 0)
       have b180 := eo st hE 57 (.int .i64 (ks.length : Int))
       have b181 := eo st hE 56 Sk
       have b182 := eo st hE 11 (.int .i64 (p.1 : Int))
       have g183 : Grew H133 H169 := (gk st)
       have g184 : Grew H H169 := Grew.trans g147 g183
       have r185 := g183.at r148
       have s186 := s150.grew g183
       have s187 := s151.grew g183
       clear st hE vs ls
       have hmem : (p.1, p.2) ∈ (rowB (esK ks) p (bfsT (esK ks) a i61) i111) := by exact List.mem_of_getElem? hIk
       refine res_look (d := some 87) (by kernel_rfl) (look0 (z := .int .i64 0) b170 s187 b171 hI.nd hmem) ?_
       have q188 := q132.app (.cons ⟨_, rfl⟩ .nil : KdsL [KI] [.int .i64 (p.2 : Int)])
       refine run_mc (φ := φ0) (pm := pmR 1 [] 0) 20 (ws := [⟨p20, 0, [n1 0, n1 1], false⟩]) (env := [(85, n1 6), (86, nI 9), (83, n1 6), (84, nI 14), (10, n1 12), (14, nI 14), (58, nI 11), (2, nI 3), (9, n1 6), (3, .ptr 0 0), (57, nI 10), (56, n1 1), (11, nI 9), (87, nI 19)]) q188 (.cons (wR r185 q188) .nil) (sepOk_ro rfl) .nil (eC q188 (.cons (put_ne rfl b170) (.cons (put_ne rfl b171) (.cons (put_ne rfl b172) (.cons (put_ne rfl b173) (.cons (put_ne rfl b174) (.cons (put_ne rfl b175) (.cons (put_ne rfl b176) (.cons (put_ne rfl b177) (.cons (put_ne rfl b178) (.cons (put_ne rfl b179) (.cons (put_ne rfl b180) (.cons (put_ne rfl b181) (.cons (put_ne rfl b182) (.cons put_same .nil))))))))))))))) tb_ok ap_ok ?_
       refine all1 (by kernel_rfl) ?_
       intro vs ls H189 E189 st hE
       have b190 := eo st hE 83 (.map lm28)
       have b191 := eo st hE 84 (.int .i64 (v128_1 : Int))
       obtain ⟨w192, hw192⟩ : ∃ z, z = (IntKind.wrap .i64 ((p.2 : Int) + 1)) := ⟨_, rfl⟩
       have b193 : E189 88 = .int .i64 w192 := by rw [hw192]; exact eo st hE 88 _
       have b194 := eo st hE 10 acc111_0
       have b195 := eo st hE 14 (.int .i64 (v128_1 : Int))
       have b196 := eo st hE 58 (.int .i64 (i111 : Int))
       have b197 := eo st hE 2 (.int .i64 (b : Int))
       have b198 := eo st hE 9 (.map lm28)
       have b199 := eo st hE 3 (.ptr p20 0)
       have b200 := eo st hE 57 (.int .i64 (ks.length : Int))
       have b201 := eo st hE 56 Sk
       have b202 := eo st hE 11 (.int .i64 (p.1 : Int))
       have g203 : Grew H169 H189 := (gk st)
       have g204 : Grew H H189 := Grew.trans g184 g203
       have r205 := g203.at r185
       have s206 := s186.grew g203
       have s207 := s187.grew g203
       clear st hE vs ls
       have hz208 : E189 88 = .int .i64 (((p.2 + 1) : Nat) : Int) := by rw [b193, hw192, wrap64 (by omega)]
       refine res_upd (x := .tmp 83) (y := .tmp 84) (z := .tmp 88) (by kernel_rfl) (v := v128_1) (d := (p.2 + 1)) (fl := (rowB (esK ks) p (bfsT (esK ks) a i61) i111)) b190 s207 b191 hz208 hout ?_
       intro H208 s208 oo208
       have g209 : Grew H H208 := OnlyS.own g204 flm28 oo208
       have r210 := oo208.at r205 (by assumption)
       have s211 := s206.only oo208 (by first | assumption | exact ApartS.symm (by assumption))
       have q212 := q188.app (.cons ⟨_, rfl⟩ .nil : KdsL [KI] [.int .i64 w192])
       refine run_mc (φ := φ0) (pm := pmR 1 [] 0) 20 (ws := [⟨p20, 0, [n1 0, n1 1], false⟩]) (env := [(83, n1 6), (84, nI 14), (88, nI 20), (10, n1 12), (14, nI 14), (58, nI 11), (2, nI 3), (9, n1 6), (3, .ptr 0 0), (57, nI 10), (56, n1 1), (11, nI 9)]) q212 (.cons (wR r210 q212) .nil) (sepOk_ro rfl) .nil (eC q212 (.cons (put_no b190) (.cons (put_no b191) (.cons (put_no b193) (.cons (put_no b194) (.cons (put_no b195) (.cons (put_no b196) (.cons (put_no b197) (.cons (put_no b198) (.cons (put_no b199) (.cons (put_no b200) (.cons (put_no b201) (.cons (put_no b202) .nil))))))))))))) tb_ok ap_ok ?_
       refine all1 (by kernel_rfl) ?_
       intro vs ls H213 E213 st hE
       obtain ⟨p214, e215, r216, n217⟩ := sl_of st.inn hE 91 1 1 1 1 (by kernel_rfl) (ds := [.int .i64 (v128_1 : Int)]) (by kernel_rfl)
       have op214 : H.next ≤ p214 := Nat.le_trans g209.next (n217 (Nat.le_of_ble_eq_true rfl))
       have ne218 := apn r210 (n217 (Nat.le_of_ble_eq_true rfl))
       have ne219 : ApartL (acc111_0) p214 := s211.apart_new (n217 (Nat.le_of_ble_eq_true rfl))
       have ne220 : ApartL ((.slice lm28 0 0 0 1)) p214 := s208.apart_new (n217 (Nat.le_of_ble_eq_true rfl))
       have b221 := eo st hE 89 acc111_0
       have b222 := eo st hE 58 (.int .i64 (i111 : Int))
       have b223 := eo st hE 2 (.int .i64 (b : Int))
       have b224 := eo st hE 9 (.map lm28)
       have b225 := eo st hE 3 (.ptr p20 0)
       have b226 := eo st hE 10 acc111_0
       have b227 := eo st hE 57 (.int .i64 (ks.length : Int))
       have b228 := eo st hE 56 Sk
       have b229 := eo st hE 11 (.int .i64 (p.1 : Int))
       have g230 : Grew H208 H213 := (gk st)
       have g231 : Grew H H213 := Grew.trans g209 g230
       have r232 := g230.at r210
       have s233 := s211.grew g230
       have s234 := s208.grew g230
       clear st hE vs ls
       refine res_appendV (d := (some 92)) (sz := 1) (bytes := 8) (x := .tmp 89) (y := .tmp 91) (by kernel_rfl) (S := acc111_0) (ms := (qT (rowB (esK ks) p (bfsT (esK ks) a i61) i111) i61)) (ys := [[.int .i64 (v128_1 : Int)]]) (by show E213 89 = _; exact b221) s233 (qT_recs (rowB (esK ks) p (bfsT (esK ks) a i61) i111) i61).len (by show srcCells _ _ (E213 91) = _; rw [e215]; exact src_one r216 rfl) (recs_one (ks := KW) (Recs.one (ks := KW) (.cons ⟨_, rfl⟩ .nil)) rfl) (by simp) (by show (2 * ((qT (rowB (esK ks) p (bfsT (esK ks) a i61) i111) i61).length + 1) + 192) * 8 ≤ 281474976710656; rw [qT_len]; omega) ?_
       intro S235 H236 sS235 fS235 oS235
       have ne237 : ApartL (S235) p20 := fS235.apartL (H213.lt_of_get r232) (by assumption)
       have ne238 : ApartL (S235) p214 := fS235.apartL (H213.lt_of_get r216) (by assumption)
       have ne239 : ApartS (S235) ((.slice lm28 0 0 0 1)) := fS235.apartS s234.lt (by first | assumption | exact ApartS.symm (by assumption))
       have fr240 : FreshS H.next (S235) := fS235.fresh f111_0 g231.next
       have g241 : Grew H H236 := OnlyS.own g231 f111_0 oS235
       have r242 := oS235.at r232 (by assumption)
       have r243 := oS235.at r216 (by assumption)
       have s244 := s234.only oS235 (ApartS.symm (by first | assumption | exact ApartS.symm (by assumption)))
       have q245 := q212.app (.cons sS235.one .nil : KdsL [.one] [S235])
       refine run_mc (φ := φ0) (pm := pmR 2 [] 0) 20 (ws := [⟨p20, 0, [n1 0, n1 1], false⟩, ⟨p214, 0, [nI 14], false⟩]) (env := [(89, n1 12), (91, .sl 1 0 1 1 1), (58, nI 11), (2, nI 3), (9, n1 6), (3, .ptr 0 0), (10, n1 12), (57, nI 10), (56, n1 1), (11, nI 9), (92, n1 21)]) q245 (.cons (wR r242 q245) (.cons (wR r243 q245) .nil)) (sepOk_ro rfl) .nil (eC q245 (.cons (put_ne rfl b221) (.cons (put_ne rfl e215) (.cons (put_ne rfl b222) (.cons (put_ne rfl b223) (.cons (put_ne rfl b224) (.cons (put_ne rfl b225) (.cons (put_ne rfl b226) (.cons (put_ne rfl b227) (.cons (put_ne rfl b228) (.cons (put_ne rfl b229) (.cons put_same .nil)))))))))))) tb_ok ap_ok ?_
       refine all1 (by kernel_rfl) ?_
       intro vs ls H246 E246 st hE
       obtain ⟨w247, hw247⟩ : ∃ z, z = (IntKind.wrap .i64 ((i111 : Int) + 1)) := ⟨_, rfl⟩
       have b248 : E246 58 = .int .i64 w247 := by rw [hw247]; exact eo st hE 58 _
       have b249 := eo st hE 57 (.int .i64 (ks.length : Int))
       have b250 := eo st hE 56 Sk
       have b251 := eo st hE 11 (.int .i64 (p.1 : Int))
       have b252 := eo st hE 9 (.map lm28)
       have b253 := eo st hE 2 (.int .i64 (b : Int))
       have b254 := eo st hE 3 (.ptr p20 0)
       have b255 := eo st hE 10 S235
       have g256 : Grew H236 H246 := (gk st)
       have g257 : Grew H H246 := Grew.trans g241 g256
       have r258 := g256.at r242
       have s260 := s244.grew g256
       have s261 := sS235.grew g256
       clear st hE vs ls
       have hz9 : z111 - 1 < z111 := by omega
       have hy9 : z111 - 1 + (i111 + 1) = ks.length := by omega
       have hi9 : E246 58 = .int .i64 ((i111 + 1 : Nat) : Int) := by rw [b248, hw247, wrap64 (by omega)]
       have hst : (rowB (esK ks) p (bfsT (esK ks) a i61) (i111 + 1)) = ((rowB (esK ks) p (bfsT (esK ks) a i61) i111) ++ [(v128_1, (p.2 + 1))]) := by
        show stepB p _ ((esK ks).getD i111 (0, 0)) = _
        rw [esK_get hlt128 he128]
        unfold stepB
        first | rw [show nextE p.1 (v128_0, v128_1) = some v128_1 from if_pos (by omega)] | rw [show nextE p.1 (v128_0, v128_1) = some v128_0 from by unfold nextE; rw [if_neg (by omega), if_pos (by omega)]] | rw [show nextE p.1 (v128_0, v128_1) = none from by unfold nextE; rw [if_neg (by omega), if_neg (by omega)]]
        exact if_neg hout
       have hsq : qT (rowB (esK ks) p (bfsT (esK ks) a i61) (i111 + 1)) i61 = ((qT (rowB (esK ks) p (bfsT (esK ks) a i61) i111) i61) ++ [[.int .i64 (v128_1 : Int)]]) := by rw [hst]; exact qT_app (Nat.le_of_lt (get_lt hIk)) _ _
       exact res_norm (by kernel_rfl) ⟨z111 - 1, hz9, i111 + 1, S235, hy9, b249, b250, b251, b252, b253, b254, hi9, b255, g257, r258, (by rw [hsq]; exact s261), fr240, (by assumption), (by first | assumption | exact ApartS.symm (by assumption)), (by rw [hst]; exact s260)⟩
     ·
      intro vs ls H262 E262 st hE
      have f263 : (p.1 : Int) = (v128_1 : Int) := dt st 0
      have f264 : ¬ ((p.1 : Int) = (v128_0 : Int)) := df st 1
      have b265 := eo st hE 76 (.map lm28)
      have b266 := eo st hE 77 (.int .i64 (v128_0 : Int))
      have b267 := eo st hE 9 (.map lm28)
      have b268 := eo st hE 14 (.int .i64 (v128_0 : Int))
      have b269 := eo st hE 11 (.int .i64 (p.1 : Int))
      have b270 := eo st hE 10 acc111_0
      have b271 := eo st hE 58 (.int .i64 (i111 : Int))
      have b272 := eo st hE 2 (.int .i64 (b : Int))
      have b273 := eo st hE 3 (.ptr p20 0)
      have b274 := eo st hE 57 (.int .i64 (ks.length : Int))
      have b275 := eo st hE 56 Sk
      have g276 : Grew H113 H262 := (gk st)
      have g277 : Grew H H262 := Grew.trans g124 g276
      have r278 := g276.at r125
      have s280 := s126.grew g276
      have s281 := s127.grew g276
      clear st hE vs ls
      rcases Classical.em (v128_0 ∈ ((rowB (esK ks) p (bfsT (esK ks) a i61) i111)).map Prod.fst) with hin | hout
      ·
       obtain ⟨q9, hq9, eq9⟩ := List.mem_map.1 hin
       refine res_look (d := some 78) (by kernel_rfl) (look1 (z := .int .i64 0) b265 s281 b266 hI.nd (d := q9.2) (by rw [← eq9]; exact hq9)) ?_
       have q282 := q132.app (.cons ⟨_, rfl⟩ .nil : KdsL [KI] [.int .i64 (q9.2 : Int)])
       refine run_mc (φ := φ0) (pm := pmR 1 [] 0) 20 (ws := [⟨p20, 0, [n1 0, n1 1], false⟩]) (env := [(76, n1 6), (77, nI 13), (9, n1 6), (14, nI 13), (11, nI 9), (10, n1 12), (58, nI 11), (2, nI 3), (3, .ptr 0 0), (57, nI 10), (56, n1 1), (78, .tup [nI 19, .lit (.bool true)])]) q282 (.cons (wR r278 q282) .nil) (sepOk_ro rfl) .nil (eC q282 (.cons (put_ne rfl b265) (.cons (put_ne rfl b266) (.cons (put_ne rfl b267) (.cons (put_ne rfl b268) (.cons (put_ne rfl b269) (.cons (put_ne rfl b270) (.cons (put_ne rfl b271) (.cons (put_ne rfl b272) (.cons (put_ne rfl b273) (.cons (put_ne rfl b274) (.cons (put_ne rfl b275) (.cons put_same .nil))))))))))))) tb_ok ap_ok ?_
       refine all1 (by kernel_rfl) ?_
       intro vs ls H283 E283 st hE
       obtain ⟨w284, hw284⟩ : ∃ z, z = (IntKind.wrap .i64 ((i111 : Int) + 1)) := ⟨_, rfl⟩
       have b285 : E283 58 = .int .i64 w284 := by rw [hw284]; exact eo st hE 58 _
       have b286 := eo st hE 57 (.int .i64 (ks.length : Int))
       have b287 := eo st hE 56 Sk
       have b288 := eo st hE 11 (.int .i64 (p.1 : Int))
       have b289 := eo st hE 9 (.map lm28)
       have b290 := eo st hE 2 (.int .i64 (b : Int))
       have b291 := eo st hE 3 (.ptr p20 0)
       have b292 := eo st hE 10 acc111_0
       have g293 : Grew H262 H283 := (gk st)
       have g294 : Grew H H283 := Grew.trans g277 g293
       have r295 := g293.at r278
       have s296 := s280.grew g293
       have s297 := s281.grew g293
       clear st hE vs ls
       have hz9 : z111 - 1 < z111 := by omega
       have hy9 : z111 - 1 + (i111 + 1) = ks.length := by omega
       have hi9 : E283 58 = .int .i64 ((i111 + 1 : Nat) : Int) := by rw [b285, hw284, wrap64 (by omega)]
       have hst : (rowB (esK ks) p (bfsT (esK ks) a i61) (i111 + 1)) = (rowB (esK ks) p (bfsT (esK ks) a i61) i111) := by
        show stepB p _ ((esK ks).getD i111 (0, 0)) = _
        rw [esK_get hlt128 he128]
        unfold stepB
        first | rw [show nextE p.1 (v128_0, v128_1) = some v128_1 from if_pos (by omega)] | rw [show nextE p.1 (v128_0, v128_1) = some v128_0 from by unfold nextE; rw [if_neg (by omega), if_pos (by omega)]] | rw [show nextE p.1 (v128_0, v128_1) = none from by unfold nextE; rw [if_neg (by omega), if_neg (by omega)]]
        all_goals first | rfl | exact if_pos hin
       have hsq : qT (rowB (esK ks) p (bfsT (esK ks) a i61) (i111 + 1)) i61 = (qT (rowB (esK ks) p (bfsT (esK ks) a i61) i111) i61) := by rw [hst]
       exact res_norm (by kernel_rfl) ⟨z111 - 1, hz9, i111 + 1, acc111_0, hy9, b286, b287, b288, b289, b290, b291, hi9, b292, g294, r295, (by rw [hsq]; exact s296), f111_0, (by assumption), (by first | assumption | exact ApartS.symm (by assumption)), (by rw [hst]; exact s297)⟩
      ·
       refine res_look (d := some 78) (by kernel_rfl) (look2 b265 s281 b266 hout) ?_
       refine run_mc (φ := φ0) (pm := pmR 1 [] 0) 20 (ws := [⟨p20, 0, [n1 0, n1 1], false⟩]) (env := [(76, n1 6), (77, nI 13), (9, n1 6), (14, nI 13), (11, nI 9), (10, n1 12), (58, nI 11), (2, nI 3), (3, .ptr 0 0), (57, nI 10), (56, n1 1), (78, .tup [.lit (.int .i64 0), .lit (.bool false)])]) q132 (.cons (wR r278 q132) .nil) (sepOk_ro rfl) .nil (eC q132 (.cons (put_ne rfl b265) (.cons (put_ne rfl b266) (.cons (put_ne rfl b267) (.cons (put_ne rfl b268) (.cons (put_ne rfl b269) (.cons (put_ne rfl b270) (.cons (put_ne rfl b271) (.cons (put_ne rfl b272) (.cons (put_ne rfl b273) (.cons (put_ne rfl b274) (.cons (put_ne rfl b275) (.cons put_same .nil))))))))))))) tb_ok ap_ok ?_
       refine all1 (by kernel_rfl) ?_
       intro vs ls H299 E299 st hE
       have b300 := eo st hE 85 (.map lm28)
       have b301 := eo st hE 86 (.int .i64 (p.1 : Int))
       have b302 := eo st hE 83 (.map lm28)
       have b303 := eo st hE 84 (.int .i64 (v128_0 : Int))
       have b304 := eo st hE 10 acc111_0
       have b305 := eo st hE 14 (.int .i64 (v128_0 : Int))
       have b306 := eo st hE 58 (.int .i64 (i111 : Int))
       have b307 := eo st hE 2 (.int .i64 (b : Int))
       have b308 := eo st hE 9 (.map lm28)
       have b309 := eo st hE 3 (.ptr p20 0)
       have b310 := eo st hE 57 (.int .i64 (ks.length : Int))
       have b311 := eo st hE 56 Sk
       have b312 := eo st hE 11 (.int .i64 (p.1 : Int))
       have g313 : Grew H262 H299 := (gk st)
       have g314 : Grew H H299 := Grew.trans g277 g313
       have r315 := g313.at r278
       have s316 := s280.grew g313
       have s317 := s281.grew g313
       clear st hE vs ls
       have hmem : (p.1, p.2) ∈ (rowB (esK ks) p (bfsT (esK ks) a i61) i111) := by exact List.mem_of_getElem? hIk
       refine res_look (d := some 87) (by kernel_rfl) (look0 (z := .int .i64 0) b300 s317 b301 hI.nd hmem) ?_
       have q318 := q132.app (.cons ⟨_, rfl⟩ .nil : KdsL [KI] [.int .i64 (p.2 : Int)])
       refine run_mc (φ := φ0) (pm := pmR 1 [] 0) 20 (ws := [⟨p20, 0, [n1 0, n1 1], false⟩]) (env := [(85, n1 6), (86, nI 9), (83, n1 6), (84, nI 13), (10, n1 12), (14, nI 13), (58, nI 11), (2, nI 3), (9, n1 6), (3, .ptr 0 0), (57, nI 10), (56, n1 1), (11, nI 9), (87, nI 19)]) q318 (.cons (wR r315 q318) .nil) (sepOk_ro rfl) .nil (eC q318 (.cons (put_ne rfl b300) (.cons (put_ne rfl b301) (.cons (put_ne rfl b302) (.cons (put_ne rfl b303) (.cons (put_ne rfl b304) (.cons (put_ne rfl b305) (.cons (put_ne rfl b306) (.cons (put_ne rfl b307) (.cons (put_ne rfl b308) (.cons (put_ne rfl b309) (.cons (put_ne rfl b310) (.cons (put_ne rfl b311) (.cons (put_ne rfl b312) (.cons put_same .nil))))))))))))))) tb_ok ap_ok ?_
       refine all1 (by kernel_rfl) ?_
       intro vs ls H319 E319 st hE
       have b320 := eo st hE 83 (.map lm28)
       have b321 := eo st hE 84 (.int .i64 (v128_0 : Int))
       obtain ⟨w322, hw322⟩ : ∃ z, z = (IntKind.wrap .i64 ((p.2 : Int) + 1)) := ⟨_, rfl⟩
       have b323 : E319 88 = .int .i64 w322 := by rw [hw322]; exact eo st hE 88 _
       have b324 := eo st hE 10 acc111_0
       have b325 := eo st hE 14 (.int .i64 (v128_0 : Int))
       have b326 := eo st hE 58 (.int .i64 (i111 : Int))
       have b327 := eo st hE 2 (.int .i64 (b : Int))
       have b328 := eo st hE 9 (.map lm28)
       have b329 := eo st hE 3 (.ptr p20 0)
       have b330 := eo st hE 57 (.int .i64 (ks.length : Int))
       have b331 := eo st hE 56 Sk
       have b332 := eo st hE 11 (.int .i64 (p.1 : Int))
       have g333 : Grew H299 H319 := (gk st)
       have g334 : Grew H H319 := Grew.trans g314 g333
       have r335 := g333.at r315
       have s336 := s316.grew g333
       have s337 := s317.grew g333
       clear st hE vs ls
       have hz338 : E319 88 = .int .i64 (((p.2 + 1) : Nat) : Int) := by rw [b323, hw322, wrap64 (by omega)]
       refine res_upd (x := .tmp 83) (y := .tmp 84) (z := .tmp 88) (by kernel_rfl) (v := v128_0) (d := (p.2 + 1)) (fl := (rowB (esK ks) p (bfsT (esK ks) a i61) i111)) b320 s337 b321 hz338 hout ?_
       intro H338 s338 oo338
       have g339 : Grew H H338 := OnlyS.own g334 flm28 oo338
       have r340 := oo338.at r335 (by assumption)
       have s341 := s336.only oo338 (by first | assumption | exact ApartS.symm (by assumption))
       have q342 := q318.app (.cons ⟨_, rfl⟩ .nil : KdsL [KI] [.int .i64 w322])
       refine run_mc (φ := φ0) (pm := pmR 1 [] 0) 20 (ws := [⟨p20, 0, [n1 0, n1 1], false⟩]) (env := [(83, n1 6), (84, nI 13), (88, nI 20), (10, n1 12), (14, nI 13), (58, nI 11), (2, nI 3), (9, n1 6), (3, .ptr 0 0), (57, nI 10), (56, n1 1), (11, nI 9)]) q342 (.cons (wR r340 q342) .nil) (sepOk_ro rfl) .nil (eC q342 (.cons (put_no b320) (.cons (put_no b321) (.cons (put_no b323) (.cons (put_no b324) (.cons (put_no b325) (.cons (put_no b326) (.cons (put_no b327) (.cons (put_no b328) (.cons (put_no b329) (.cons (put_no b330) (.cons (put_no b331) (.cons (put_no b332) .nil))))))))))))) tb_ok ap_ok ?_
       refine all1 (by kernel_rfl) ?_
       intro vs ls H343 E343 st hE
       obtain ⟨p344, e345, r346, n347⟩ := sl_of st.inn hE 91 1 1 1 1 (by kernel_rfl) (ds := [.int .i64 (v128_0 : Int)]) (by kernel_rfl)
       have op344 : H.next ≤ p344 := Nat.le_trans g339.next (n347 (Nat.le_of_ble_eq_true rfl))
       have ne348 := apn r340 (n347 (Nat.le_of_ble_eq_true rfl))
       have ne349 : ApartL (acc111_0) p344 := s341.apart_new (n347 (Nat.le_of_ble_eq_true rfl))
       have ne350 : ApartL ((.slice lm28 0 0 0 1)) p344 := s338.apart_new (n347 (Nat.le_of_ble_eq_true rfl))
       have b351 := eo st hE 89 acc111_0
       have b352 := eo st hE 58 (.int .i64 (i111 : Int))
       have b353 := eo st hE 2 (.int .i64 (b : Int))
       have b354 := eo st hE 9 (.map lm28)
       have b355 := eo st hE 3 (.ptr p20 0)
       have b356 := eo st hE 10 acc111_0
       have b357 := eo st hE 57 (.int .i64 (ks.length : Int))
       have b358 := eo st hE 56 Sk
       have b359 := eo st hE 11 (.int .i64 (p.1 : Int))
       have g360 : Grew H338 H343 := (gk st)
       have g361 : Grew H H343 := Grew.trans g339 g360
       have r362 := g360.at r340
       have s363 := s341.grew g360
       have s364 := s338.grew g360
       clear st hE vs ls
       refine res_appendV (d := (some 92)) (sz := 1) (bytes := 8) (x := .tmp 89) (y := .tmp 91) (by kernel_rfl) (S := acc111_0) (ms := (qT (rowB (esK ks) p (bfsT (esK ks) a i61) i111) i61)) (ys := [[.int .i64 (v128_0 : Int)]]) (by show E343 89 = _; exact b351) s363 (qT_recs (rowB (esK ks) p (bfsT (esK ks) a i61) i111) i61).len (by show srcCells _ _ (E343 91) = _; rw [e345]; exact src_one r346 rfl) (recs_one (ks := KW) (Recs.one (ks := KW) (.cons ⟨_, rfl⟩ .nil)) rfl) (by simp) (by show (2 * ((qT (rowB (esK ks) p (bfsT (esK ks) a i61) i111) i61).length + 1) + 192) * 8 ≤ 281474976710656; rw [qT_len]; omega) ?_
       intro S365 H366 sS365 fS365 oS365
       have ne367 : ApartL (S365) p20 := fS365.apartL (H343.lt_of_get r362) (by assumption)
       have ne368 : ApartL (S365) p344 := fS365.apartL (H343.lt_of_get r346) (by assumption)
       have ne369 : ApartS (S365) ((.slice lm28 0 0 0 1)) := fS365.apartS s364.lt (by first | assumption | exact ApartS.symm (by assumption))
       have fr370 : FreshS H.next (S365) := fS365.fresh f111_0 g361.next
       have g371 : Grew H H366 := OnlyS.own g361 f111_0 oS365
       have r372 := oS365.at r362 (by assumption)
       have r373 := oS365.at r346 (by assumption)
       have s374 := s364.only oS365 (ApartS.symm (by first | assumption | exact ApartS.symm (by assumption)))
       have q375 := q342.app (.cons sS365.one .nil : KdsL [.one] [S365])
       refine run_mc (φ := φ0) (pm := pmR 2 [] 0) 20 (ws := [⟨p20, 0, [n1 0, n1 1], false⟩, ⟨p344, 0, [nI 13], false⟩]) (env := [(89, n1 12), (91, .sl 1 0 1 1 1), (58, nI 11), (2, nI 3), (9, n1 6), (3, .ptr 0 0), (10, n1 12), (57, nI 10), (56, n1 1), (11, nI 9), (92, n1 21)]) q375 (.cons (wR r372 q375) (.cons (wR r373 q375) .nil)) (sepOk_ro rfl) .nil (eC q375 (.cons (put_ne rfl b351) (.cons (put_ne rfl e345) (.cons (put_ne rfl b352) (.cons (put_ne rfl b353) (.cons (put_ne rfl b354) (.cons (put_ne rfl b355) (.cons (put_ne rfl b356) (.cons (put_ne rfl b357) (.cons (put_ne rfl b358) (.cons (put_ne rfl b359) (.cons put_same .nil)))))))))))) tb_ok ap_ok ?_
       refine all1 (by kernel_rfl) ?_
       intro vs ls H376 E376 st hE
       obtain ⟨w377, hw377⟩ : ∃ z, z = (IntKind.wrap .i64 ((i111 : Int) + 1)) := ⟨_, rfl⟩
       have b378 : E376 58 = .int .i64 w377 := by rw [hw377]; exact eo st hE 58 _
       have b379 := eo st hE 57 (.int .i64 (ks.length : Int))
       have b380 := eo st hE 56 Sk
       have b381 := eo st hE 11 (.int .i64 (p.1 : Int))
       have b382 := eo st hE 9 (.map lm28)
       have b383 := eo st hE 2 (.int .i64 (b : Int))
       have b384 := eo st hE 3 (.ptr p20 0)
       have b385 := eo st hE 10 S365
       have g386 : Grew H366 H376 := (gk st)
       have g387 : Grew H H376 := Grew.trans g371 g386
       have r388 := g386.at r372
       have s390 := s374.grew g386
       have s391 := sS365.grew g386
       clear st hE vs ls
       have hz9 : z111 - 1 < z111 := by omega
       have hy9 : z111 - 1 + (i111 + 1) = ks.length := by omega
       have hi9 : E376 58 = .int .i64 ((i111 + 1 : Nat) : Int) := by rw [b378, hw377, wrap64 (by omega)]
       have hst : (rowB (esK ks) p (bfsT (esK ks) a i61) (i111 + 1)) = ((rowB (esK ks) p (bfsT (esK ks) a i61) i111) ++ [(v128_0, (p.2 + 1))]) := by
        show stepB p _ ((esK ks).getD i111 (0, 0)) = _
        rw [esK_get hlt128 he128]
        unfold stepB
        first | rw [show nextE p.1 (v128_0, v128_1) = some v128_1 from if_pos (by omega)] | rw [show nextE p.1 (v128_0, v128_1) = some v128_0 from by unfold nextE; rw [if_neg (by omega), if_pos (by omega)]] | rw [show nextE p.1 (v128_0, v128_1) = none from by unfold nextE; rw [if_neg (by omega), if_neg (by omega)]]
        exact if_neg hout
       have hsq : qT (rowB (esK ks) p (bfsT (esK ks) a i61) (i111 + 1)) i61 = ((qT (rowB (esK ks) p (bfsT (esK ks) a i61) i111) i61) ++ [[.int .i64 (v128_0 : Int)]]) := by rw [hst]; exact qT_app (Nat.le_of_lt (get_lt hIk)) _ _
       exact res_norm (by kernel_rfl) ⟨z111 - 1, hz9, i111 + 1, S365, hy9, b379, b380, b381, b382, b383, b384, hi9, b385, g387, r388, (by rw [hsq]; exact s391), fr370, (by assumption), (by first | assumption | exact ApartS.symm (by assumption)), (by rw [hst]; exact s390)⟩
     ·
      intro vs ls H392 E392 st hE
      have f393 : ¬ ((p.1 : Int) = (v128_1 : Int)) := df st 0
      have f394 : ¬ ((p.1 : Int) = (v128_0 : Int)) := df st 1
      obtain ⟨w395, hw395⟩ : ∃ z, z = (IntKind.wrap .i64 ((i111 : Int) + 1)) := ⟨_, rfl⟩
      have b396 : E392 58 = .int .i64 w395 := by rw [hw395]; exact eo st hE 58 _
      have b397 := eo st hE 57 (.int .i64 (ks.length : Int))
      have b398 := eo st hE 56 Sk
      have b399 := eo st hE 11 (.int .i64 (p.1 : Int))
      have b400 := eo st hE 9 (.map lm28)
      have b401 := eo st hE 2 (.int .i64 (b : Int))
      have b402 := eo st hE 3 (.ptr p20 0)
      have b403 := eo st hE 10 acc111_0
      have g404 : Grew H113 H392 := (gk st)
      have g405 : Grew H H392 := Grew.trans g124 g404
      have r406 := g404.at r125
      have s408 := s126.grew g404
      have s409 := s127.grew g404
      clear st hE vs ls
      have hz9 : z111 - 1 < z111 := by omega
      have hy9 : z111 - 1 + (i111 + 1) = ks.length := by omega
      have hi9 : E392 58 = .int .i64 ((i111 + 1 : Nat) : Int) := by rw [b396, hw395, wrap64 (by omega)]
      have hst : (rowB (esK ks) p (bfsT (esK ks) a i61) (i111 + 1)) = (rowB (esK ks) p (bfsT (esK ks) a i61) i111) := by
       show stepB p _ ((esK ks).getD i111 (0, 0)) = _
       rw [esK_get hlt128 he128]
       unfold stepB
       first | rw [show nextE p.1 (v128_0, v128_1) = some v128_1 from if_pos (by omega)] | rw [show nextE p.1 (v128_0, v128_1) = some v128_0 from by unfold nextE; rw [if_neg (by omega), if_pos (by omega)]] | rw [show nextE p.1 (v128_0, v128_1) = none from by unfold nextE; rw [if_neg (by omega), if_neg (by omega)]]
       all_goals first | rfl | exact if_pos hin
      have hsq : qT (rowB (esK ks) p (bfsT (esK ks) a i61) (i111 + 1)) i61 = (qT (rowB (esK ks) p (bfsT (esK ks) a i61) i111) i61) := by rw [hst]
      exact res_norm (by kernel_rfl) ⟨z111 - 1, hz9, i111 + 1, acc111_0, hy9, b397, b398, b399, b400, b401, b402, hi9, b403, g405, r406, (by rw [hsq]; exact s408), f111_0, (by assumption), (by first | assumption | exact ApartS.symm (by assumption)), (by rw [hst]; exact s409)⟩
    ·
     intro vs ls H410 E410 st hE
     have f411 : ¬ ((i111 : Int) < (ks.length : Int)) := df st 0
     have b412 := eo st hE 58 (.int .i64 (i111 : Int))
     have b413 := eo st hE 57 (.int .i64 (ks.length : Int))
     obtain ⟨w414, hw414⟩ : ∃ z, z = (decide ((i111 : Int) < (ks.length : Int))) := ⟨_, rfl⟩
     have b415 : E410 59 = .bool w414 := by rw [hw414]; exact eo st hE 59 _
     have b416 := eo st hE 56 Sk
     have b417 := eo st hE 11 (.int .i64 (p.1 : Int))
     have b418 := eo st hE 9 (.map lm28)
     have b419 := eo st hE 10 acc111_0
     have b420 := eo st hE 2 (.int .i64 (b : Int))
     have b421 := eo st hE 3 (.ptr p20 0)
     have g422 : Grew Hi111 H410 := (gk st)
     have g423 : Grew H H410 := Grew.trans gt111 g422
     have r424 := g422.at r111_0
     have s425 := s111_0.grew g422
     have s426 := so111_0.grew g422
     clear st hE vs ls
     refine res_exit (id := 3) (by kernel_rfl) ?_
     obtain ⟨V427, sV427, uV427, eV427⟩ := (s425).tail hIk
     have ne428 : ApartL V427 p20 := ⟨fun h => (show ApartL (acc111_0) p20 by assumption).ne (uV427 _ h)⟩
     have ne429 : ApartS V427 (.slice lm28 0 0 0 1) := ⟨fun l h => (show ApartS (acc111_0) (.slice lm28 0 0 0 1) by first | assumption | exact ApartS.symm (by assumption)).ne l (uV427 _ h)⟩
     have fV427 : FreshS H.next V427 := ⟨fun l h => (f111_0).le l (uV427 _ h)⟩
     have q430 := q112.app (.cons ⟨_, rfl⟩ (.cons sV427.one .nil) : KdsL [.bool, .one] [.bool w414, V427])
     refine run_mc (φ := φ0) (pm := pmR 1 [(.slSl 1 (n1 12) (some (.lit (.int .i64 1))) none, n1 14)] 0) 20 (ws := [⟨p20, 0, [n1 0, n1 1], false⟩]) (env := [(58, nI 11), (57, nI 10), (59, nB 13), (56, n1 1), (11, nI 9), (9, n1 6), (10, n1 12), (2, nI 3), (3, .ptr 0 0)]) q430 (.cons (wR r424 q430) .nil) (sepOk_ro rfl) (.cons (⟨_, some (.int .i64 1), none, _, (dE q430), ⟨_, rfl, (dE q430)⟩, rfl, (dE q430), eV427⟩) .nil) (eC q430 (.cons b412 (.cons b413 (.cons b415 (.cons b416 (.cons b417 (.cons b418 (.cons b419 (.cons b420 (.cons b421 .nil)))))))))) tb_ok ap_ok ?_
     refine all1 (by kernel_rfl) ?_
     intro vs ls H431 E431 st hE
     have b432 := eo st hE 2 (.int .i64 (b : Int))
     have b433 := eo st hE 9 (.map lm28)
     have b434 := eo st hE 3 (.ptr p20 0)
     have b435 := eo st hE 10 V427
     have g436 : Grew H410 H431 := (gk st)
     have g437 : Grew H H431 := Grew.trans g423 g436
     have r438 := g436.at r424
     have s440 := s426.grew g436
     have s441 := sV427.grew g436
     clear st hE vs ls
     have hz9 : z61 - 1 < z61 := by omega
     have hy9 : z61 - 1 + (i61 + 1) = ms.length := by omega
     have hst : (bfsT (esK ks) a (i61 + 1)) = rowB (esK ks) p (bfsT (esK ks) a i61) i111 := by rw [bfsT_succ, hp, show i111 = (esK ks).length by rw [esK_len]; omega]
     exact res_norm (by kernel_rfl) ⟨z61 - 1, hz9, i61 + 1, V427, hy9, b432, b433, b434, b435, g437, r438, (by rw [hst]; exact s441), fV427, (by assumption), (by first | assumption | exact ApartS.symm (by assumption)), (by rw [hst]; exact s440), (fun j hj q hq => by rw [hst] at hq; exact (Nat.lt_or_ge j i61).elim (fun h => iv61 j h q (by rw [hIe, List.getElem?_append_left (by have := get_lt hp; omega)] at hq; exact hq)) (fun h => by obtain rfl : j = i61 := (by omega); rw [hIk] at hq; cases hq; omega))⟩
  ·
   intro vs ls H442 E442 st hE
   have f443 : ¬ (0 < ((qT (bfsT (esK ks) a i61) i61).length : Int)) := df st 0
   have b444 := eo st hE 10 acc61_0
   have b445 := eo st hE 41 acc61_0
   have b446 := eo st hE 42 (.int .i64 ((qT (bfsT (esK ks) a i61) i61).length : Int))
   obtain ⟨w447, hw447⟩ : ∃ z, z = (decide (0 < ((qT (bfsT (esK ks) a i61) i61).length : Int))) := ⟨_, rfl⟩
   have b448 : E442 43 = .bool w447 := by rw [hw447]; exact eo st hE 43 _
   have b449 := eo st hE 2 (.int .i64 (b : Int))
   have b450 := eo st hE 9 (.map lm28)
   have b451 := eo st hE 3 (.ptr p20 0)
   have g452 : Grew Hi61 H442 := (gk st)
   have g453 : Grew H H442 := Grew.trans gt61 g452
   have r454 := g452.at r61_0
   clear st hE vs ls
   refine res_exit (id := 1) (by kernel_rfl) ?_
   have q457 := q62.app (.cons ⟨_, rfl⟩ .nil : KdsL [.bool] [.bool w447])
   refine run_mc (φ := φ0) (pm := pmR 1 [] 0) 20 (ws := [⟨p20, 0, [n1 0, n1 1], false⟩]) (env := [(10, n1 7), (41, n1 7), (42, nI 8), (43, nB 9), (2, nI 3), (9, n1 6), (3, .ptr 0 0)]) q457 (.cons (wR r454 q457) .nil) (sepOk_ro rfl) .nil (eC q457 (.cons b444 (.cons b445 (.cons b446 (.cons b448 (.cons b449 (.cons b450 (.cons b451 .nil)))))))) tb_ok ap_ok ?_
   refine all1 (by kernel_rfl) ?_
   intro vs ls H458 E458 st hE
   -- LEAF .int .i64 6 .int .i64 0
   refine res_ex (by kernel_rfl) (end_flat st.inn hE (.inr rfl) (a := .tuple [.int .i64 0, .int .i64 6]) (by kernel_rfl) (Grew.trans g453 (gk st)) rfl ⟨?_, rfl⟩)
   unfold apartG; rw [if_pos f19, if_pos ⟨⟨by omega, by omega⟩, by omega, by omega⟩, show ((a : Nat) : Int).toNat = a from rfl, show ((b : Nat) : Int).toNat = b from rfl]
   rw [apart_none ha hes (k := i61) (by omega) (by omega) iv61]
 ·
  intro vs ls H459 E459 st hE
  have f460 : (b : Int) < 0 := dt st 0
  have f461 : ¬ ((IntKind.wrap .i64 ((ms.length : Int) - 1)) < (a : Int)) := df st 1
  rw [show IntKind.i64.wrap ((ms.length : Int) - 1) = (ms.length : Int) - 1 from wrap_i64 (by omega) (by omega)] at f461
  have f462 : ¬ ((a : Int) < 0) := df st 2
  have f463 : (okG ms ks) = true := bf st 3
  have hok := f463
  have hlen0 := okG_lenA hok
  have hes := esK_lt hok hrk
  -- LEAF .int .i64 2 .int .i64 0
  exfalso; omega
 ·
  intro vs ls H464 E464 st hE
  have f465 : (a : Int) < 0 := dt st 0
  have f466 : (okG ms ks) = true := bf st 1
  have hok := f466
  have hlen0 := okG_lenA hok
  have hes := esK_lt hok hrk
  -- LEAF .int .i64 2 .int .i64 0
  exfalso; omega
theorem k_impl_Apart0 (H : AHeap) (ms : List (List AV)) (hr : Recs KP ms) (S : AV) (hS : SlL H 3 ms S) (hmx : ms.length < 2 ^ 40) (ks : List (List AV)) (hrk : Recs KL ks) (Sk : AV) (hSk : SlL H 6 ks Sk) (hmxk : ks.length < 2 ^ 40) (a b : Int) (hno : ¬ ((0 ≤ a ∧ a < ms.length) ∧ 0 ≤ b ∧ b < ms.length)) : APure Try.prog 33 [.agg [S, Sk], .int .i64 a, .int .i64 b] H (.tuple [.int .i64 (apartG ms ks a b).1, .int .i64 (apartG ms ks a b).2]) := by
 refine res_start h_impl_LinksApart (by simp) ?_
 have q1 : KdsL [.one, .one, KI, KI, KI, .bool] [S, Sk, .int .i64 a, .int .i64 b, .int .i64 (ms.length : Int), .bool (okG ms ks)] := .cons (slOne hS) (.cons (slOne hSk) (.cons ⟨_, rfl⟩ (.cons ⟨_, rfl⟩ (.cons ⟨_, rfl⟩ (.cons ⟨_, rfl⟩ .nil)))))
 refine run_mc (φ := φ0) (pm := pmR 0 [(.len (n1 0), nI 4), (.call 64 [.agg [n1 0, n1 1]], nB 5)] 0) 20 (ws := []) (env := [(0, .agg [n1 0, n1 1]), (1, nI 2), (2, nI 3)]) q1 .nil (sepOk_ro rfl) (.cons (⟨_, _, (dE q1), (dE q1), slLen hS⟩) (.cons (rule_call (args := [.agg [S, Sk]]) (dL q1) (dE q1) (fun H9 hk => k_impl_ValidGraph H9 ms hr S (hS.grew (Grew.trans (Grew.refl _) (hk.grew (Nat.le_refl _)))) hmx ks hrk Sk (hSk.grew (Grew.trans (Grew.refl _) (hk.grew (Nat.le_refl _)))) hmxk)) .nil)) (eC q1 (.cons (t := 0) rfl (.cons (t := 1) rfl (.cons (t := 2) rfl .nil)))) tb_ok ap_ok ?_
 refine all6 (by kernel_rfl) ?_ ?_ ?_ ?_ ?_ ?_
 ·
  intro vs ls H2 E2 st hE
  have f3 : (okG ms ks) = false := bf st 0
  refine res_ex (by kernel_rfl) (end_flat st.inn hE (.inr rfl) (a := .tuple [.int .i64 0, .int .i64 1]) (by kernel_rfl) (Grew.trans (Grew.refl _) (gk st)) rfl ⟨?_, rfl⟩)
  unfold apartG; rw [if_neg (by rw [f3]; decide)]
 ·
  intro vs ls H4 E4 st hE
  have f5 : (IntKind.wrap .i64 ((ms.length : Int) - 1)) < a := dt st 0
  rw [show IntKind.i64.wrap ((ms.length : Int) - 1) = (ms.length : Int) - 1 from wrap_i64 (by omega) (by omega)] at f5
  have f6 : ¬ (a < 0) := df st 1
  have f7 : (okG ms ks) = true := bf st 2
  have hok := f7
  have hlen0 := okG_lenA hok
  have hes := esK_lt hok hrk
  refine res_ex (by kernel_rfl) (end_flat st.inn hE (.inr rfl) (a := .tuple [.int .i64 0, .int .i64 2]) (by kernel_rfl) (Grew.trans (Grew.refl _) (gk st)) rfl ⟨?_, rfl⟩)
  unfold apartG; rw [if_pos f7, if_neg hno]
 ·
  intro vs ls H8 E8 st hE
  have f9 : (IntKind.wrap .i64 ((ms.length : Int) - 1)) < b := dt st 0
  rw [show IntKind.i64.wrap ((ms.length : Int) - 1) = (ms.length : Int) - 1 from wrap_i64 (by omega) (by omega)] at f9
  have f10 : ¬ (b < 0) := df st 1
  have f11 : ¬ ((IntKind.wrap .i64 ((ms.length : Int) - 1)) < a) := df st 2
  rw [show IntKind.i64.wrap ((ms.length : Int) - 1) = (ms.length : Int) - 1 from wrap_i64 (by omega) (by omega)] at f11
  have f12 : ¬ (a < 0) := df st 3
  have f13 : (okG ms ks) = true := bf st 4
  have hok := f13
  have hlen0 := okG_lenA hok
  have hes := esK_lt hok hrk
  refine res_ex (by kernel_rfl) (end_flat st.inn hE (.inr rfl) (a := .tuple [.int .i64 0, .int .i64 2]) (by kernel_rfl) (Grew.trans (Grew.refl _) (gk st)) rfl ⟨?_, rfl⟩)
  unfold apartG; rw [if_pos f13, if_neg hno]
 ·
  intro vs ls H14 E14 st hE
  have f15 : ¬ ((IntKind.wrap .i64 ((ms.length : Int) - 1)) < b) := df st 0
  rw [show IntKind.i64.wrap ((ms.length : Int) - 1) = (ms.length : Int) - 1 from wrap_i64 (by omega) (by omega)] at f15
  have f16 : ¬ (b < 0) := df st 1
  have f17 : ¬ ((IntKind.wrap .i64 ((ms.length : Int) - 1)) < a) := df st 2
  rw [show IntKind.i64.wrap ((ms.length : Int) - 1) = (ms.length : Int) - 1 from wrap_i64 (by omega) (by omega)] at f17
  have f18 : ¬ (a < 0) := df st 3
  have f19 : (okG ms ks) = true := bf st 4
  have hok := f19
  have hlen0 := okG_lenA hok
  have hes := esK_lt hok hrk
  obtain ⟨p20, e21, r22, n23⟩ := ptr_of st.inn hE 3 0 (by kernel_rfl) (ds := [S, Sk]) (by kernel_rfl)
  have op20 : H.next ≤ p20 := Nat.le_trans (Nat.le_refl _) (n23 (Nat.le_of_ble_eq_true rfl))
  clear st hE vs ls
  exact absurd ⟨⟨by omega, by omega⟩, by omega, by omega⟩ hno
 ·
  intro vs ls H28 E28 st hE
  have f29 : b < 0 := dt st 0
  have f30 : ¬ ((IntKind.wrap .i64 ((ms.length : Int) - 1)) < a) := df st 1
  rw [show IntKind.i64.wrap ((ms.length : Int) - 1) = (ms.length : Int) - 1 from wrap_i64 (by omega) (by omega)] at f30
  have f31 : ¬ (a < 0) := df st 2
  have f32 : (okG ms ks) = true := bf st 3
  have hok := f32
  have hlen0 := okG_lenA hok
  have hes := esK_lt hok hrk
  refine res_ex (by kernel_rfl) (end_flat st.inn hE (.inr rfl) (a := .tuple [.int .i64 0, .int .i64 2]) (by kernel_rfl) (Grew.trans (Grew.refl _) (gk st)) rfl ⟨?_, rfl⟩)
  unfold apartG; rw [if_pos f32, if_neg hno]
 ·
  intro vs ls H33 E33 st hE
  have f34 : a < 0 := dt st 0
  have f35 : (okG ms ks) = true := bf st 1
  have hok := f35
  have hlen0 := okG_lenA hok
  have hes := esK_lt hok hrk
  refine res_ex (by kernel_rfl) (end_flat st.inn hE (.inr rfl) (a := .tuple [.int .i64 0, .int .i64 2]) (by kernel_rfl) (Grew.trans (Grew.refl _) (gk st)) rfl ⟨?_, rfl⟩)
  unfold apartG; rw [if_pos f35, if_neg hno]
theorem k_impl_LinksApart (H : AHeap) (ms : List (List AV)) (hr : Recs KP ms) (S : AV) (hS : SlL H 3 ms S) (hmx : ms.length < 2 ^ 40) (ks : List (List AV)) (hrk : Recs KL ks) (Sk : AV) (hSk : SlL H 6 ks Sk) (hmxk : ks.length < 2 ^ 40) (a b : Int) : APure Try.prog 33 [.agg [S, Sk], .int .i64 a, .int .i64 b] H (.tuple [.int .i64 (apartG ms ks a b).1, .int .i64 (apartG ms ks a b).2]) := by
 by_cases h : (0 ≤ a ∧ a < ms.length) ∧ 0 ≤ b ∧ b < ms.length
 ·
  obtain ⟨a, rfl⟩ : ∃ k : Nat, a = (k : Int) := ⟨a.toNat, by omega⟩
  obtain ⟨b, rfl⟩ : ∃ k : Nat, b = (k : Int) := ⟨b.toNat, by omega⟩
  exact k_impl_Apart1 H ms hr S hS hmx ks hrk Sk hSk hmxk a b (by omega) (by omega)
 ·
  exact k_impl_Apart0 H ms hr S hS hmx ks hrk Sk hSk hmxk a b h
end Go.Proofs.Ytcmoeocemmeofaa
