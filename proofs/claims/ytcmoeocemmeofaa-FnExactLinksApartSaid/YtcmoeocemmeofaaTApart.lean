/- Contracts: how far poses are apart, by the reference. -/
import Derived.Test.YtcmoeocemmeofaaTGraphF
import Derived.Test.YtcmoeocemmeofaaSxD
import Derived.Test.YtcmoeocemmeofaaSxE
set_option linter.unusedVariables false
set_option linter.unusedSimpArgs false
namespace Go.Proofs.Ytcmoeocemmeofaa
open Go.Ab
set_option maxRecDepth 100000
set_option maxHeartbeats 1000000
attribute [local irreducible] Res
def KW : List Kd := [.int .i64]
theorem allB_getA {p : Nat → Bool} {n : Nat} (h : allB p n = true) : ∀ i, i < n → p i = true := by
 intro i hi
 cases hp : p i with
 | true => rfl
 | false => rw [allB_at hi hp] at h; cases h
def LinkA (n : Nat) (m : List AV) : Prop := ∃ (a b : Nat) (x y z w : Option Nat), m = [.int .i64 (a : Int), .int .i64 (b : Int), .flt .f32 x, .flt .f32 y, .flt .f32 z, .flt .f32 w] ∧ fOk .f32 x ∧ fOk .f32 y ∧ fOk .f32 z ∧ fOk .f32 w ∧ a < n ∧ b < n ∧ a ≠ b
theorem okG_linkA {ms ks : List (List AV)} (h : okG ms ks = true) (hr : Recs KL ks) (k : Nat) (hk : k < ks.length) : LinkA ms.length ks[k] := by
 unfold okG at h
 simp only [Bool.and_eq_true] at h
 have h1 := allB_getA h.2.2 k hk
 obtain ⟨a, b, x, y, z, w, hm, ox, oy, oz, ow⟩ := partsLink (hr.get hk)
 have e : ks.getD k [] = ks[k] := by simp [List.getD_eq_getElem?_getD, hk]
 rw [e, hm] at h1
 unfold okK at h1
 simp only [Bool.and_eq_true, decide_eq_true_eq] at h1
 obtain ⟨⟨b1, b2, b3, b4, b5⟩, _⟩ := h1
 refine ⟨a.toNat, b.toNat, x, y, z, w, ?_, ox, oy, oz, ow, by omega, by omega, by omega⟩
 rw [hm, Int.toNat_of_nonneg b1, Int.toNat_of_nonneg b3]
theorem okG_lenA {ms ks : List (List AV)} (h : okG ms ks = true) : 1 ≤ ms.length ∧ ms.length ≤ 60 ∧ ks.length ≤ 120 := by
 unfold okG at h
 simp only [Bool.and_eq_true, decide_eq_true_eq] at h
 exact h.1
def endsL : List AV → Nat × Nat
 | [.int _ a, .int _ b, _, _, _, _] => (a.toNat, b.toNat)
 | _ => (0, 0)
def esK (ks : List (List AV)) : List (Nat × Nat) := ks.map endsL
theorem esK_len (ks : List (List AV)) : (esK ks).length = ks.length := by simp [esK]
theorem esK_get {ks : List (List AV)} {k : Nat} (hk : k < ks.length) {a b : Nat} {x y z w : AV} (he : ks.getD k [] = [.int .i64 (a : Int), .int .i64 (b : Int), x, y, z, w]) : (esK ks).getD k (0, 0) = (a, b) := by
 have e : ks.getD k [] = ks[k] := by simp [List.getD_eq_getElem?_getD, hk]
 unfold esK
 rw [List.getD_eq_getElem?_getD, List.getElem?_map, List.getElem?_eq_getElem hk]
 show endsL ks[k] = _
 rw [← e, he]; rfl
theorem esK_lt {ms ks : List (List AV)} (h : okG ms ks = true) (hr : Recs KL ks) : ∀ e ∈ esK ks, e.1 < ms.length ∧ e.2 < ms.length := by
 intro e he
 obtain ⟨m, hm, rfl⟩ := List.mem_map.1 he
 obtain ⟨k, hk, rfl⟩ := List.getElem_of_mem hm
 obtain ⟨a, b, x, y, z, w, e, _, _, _, _, ha, hb, _⟩ := okG_linkA h hr k hk
 rw [e]; exact ⟨ha, hb⟩
open Classical in
noncomputable def apartG (ms ks : List (List AV)) (a b : Int) : Int × Int :=
 if okG ms ks = true then (if (0 ≤ a ∧ a < ms.length) ∧ 0 ≤ b ∧ b < ms.length then apartF (esK ks) ms.length a.toNat b.toNat else (0, 2)) else (0, 1)
theorem k_spec_Apart1 (H : AHeap) (ms : List (List AV)) (hr : Recs KP ms) (S : AV) (hS : SlL H 3 ms S) (hmx : ms.length < 2 ^ 40) (ks : List (List AV)) (hrk : Recs KL ks) (Sk : AV) (hSk : SlL H 6 ks Sk) (hmxk : ks.length < 2 ^ 40) (a b : Nat) (ha : a < ms.length) (hb : b < ms.length) : APure Try.prog 32 [.agg [S, Sk], .int .i64 (a : Int), .int .i64 (b : Int)] H (.tuple [.int .i64 (apartG ms ks (a : Int) (b : Int)).1, .int .i64 (apartG ms ks (a : Int) (b : Int)).2]) := by
 refine res_start h_spec_LinksApart (by simp) ?_
 have q1 : KdsL [.one, .one, KI, KI] [S, Sk, .int .i64 (a : Int), .int .i64 (b : Int)] := .cons (slOne hS) (.cons (slOne hSk) (.cons ⟨_, rfl⟩ (.cons ⟨_, rfl⟩ .nil)))
 refine run_mc (φ := φ0) (pm := pmR 0 [] 0) 20 (ws := []) (env := [(0, .agg [n1 0, n1 1]), (1, nI 2), (2, nI 3)]) q1 .nil (sepOk_ro rfl) .nil (eC q1 (.cons (t := 0) rfl (.cons (t := 1) rfl (.cons (t := 2) rfl .nil)))) tb_ok ap_ok ?_
 refine all1 (by kernel_rfl) ?_
 intro vs ls H2 E2 st hE
 obtain ⟨p3, e4, r5, n6⟩ := ptr_of st.inn hE 3 0 (by kernel_rfl) (ds := [S, Sk]) (by kernel_rfl)
 have op3 : H.next ≤ p3 := Nat.le_trans (Nat.le_refl _) (n6 (Nat.le_of_ble_eq_true rfl))
 have b7 := eo st hE 1 (.int .i64 (a : Int))
 have b8 := eo st hE 2 (.int .i64 (b : Int))
 have g9 : Grew H H2 := (gk st)
 have g10 : Grew H H2 := Grew.trans (Grew.refl _) g9
 clear st hE vs ls
 refine res_call (d := (some 14)) (f := 61) (args := [.tmp 3]) (by kernel_rfl) (R := fun z H' => z = .bool (okG ms ks) ∧ H' = H2) ?_ ?_
 ·
  show ACalls _ _ [E2 3] _ _
  rw [e4]
  exact k_l06Ok H2 p3 ms hr S (hS.grew g10) hmx ks hrk Sk (hSk.grew g10) hmxk r5
 rintro z H2 ⟨rfl, rfl⟩
 have q11 := q1.app (.cons ⟨_, rfl⟩ (.cons ⟨_, rfl⟩ .nil) : KdsL [.bool, KI] [.bool (okG ms ks), .int .i64 (ms.length : Int)])
 refine run_mc (φ := φ0) (pm := pmR 1 [(.len (n1 0), nI 5)] 0) 20 (ws := [⟨p3, 0, [n1 0, n1 1], false⟩]) (env := [(3, .ptr 0 0), (1, nI 2), (2, nI 3), (14, nB 4)]) q11 (.cons (wR r5 q11) .nil) (sepOk_ro rfl) (.cons (⟨_, _, (dE q11), (dE q11), slLen hS⟩) .nil) (eC q11 (.cons (put_ne rfl e4) (.cons (put_ne rfl b7) (.cons (put_ne rfl b8) (.cons put_same .nil))))) tb_ok ap_ok ?_
 refine all6 (by kernel_rfl) ?_ ?_ ?_ ?_ ?_ ?_
 ·
  intro vs ls H12 E12 st hE
  have f13 : (okG ms ks) = false := bf st 0
  refine res_ex (by kernel_rfl) (end_flat st.inn hE (.inr rfl) (a := .tuple [.int .i64 0, .int .i64 1]) (by kernel_rfl) (Grew.trans g10 (gk st)) rfl ⟨?_, rfl⟩)
  unfold apartG; rw [if_neg (by rw [f13]; decide)]
 ·
  intro vs ls H14 E14 st hE
  have f15 : (IntKind.wrap .i64 ((ms.length : Int) - 1)) < (a : Int) := dt st 0
  rw [show IntKind.i64.wrap ((ms.length : Int) - 1) = (ms.length : Int) - 1 from wrap_i64 (by omega) (by omega)] at f15
  have f16 : ¬ ((a : Int) < 0) := df st 1
  have f17 : (okG ms ks) = true := bf st 2
  have hok := f17
  have hlen0 := okG_lenA hok
  exfalso; omega
 ·
  intro vs ls H18 E18 st hE
  have f19 : (IntKind.wrap .i64 ((ms.length : Int) - 1)) < (b : Int) := dt st 0
  rw [show IntKind.i64.wrap ((ms.length : Int) - 1) = (ms.length : Int) - 1 from wrap_i64 (by omega) (by omega)] at f19
  have f20 : ¬ ((b : Int) < 0) := df st 1
  have f21 : ¬ ((IntKind.wrap .i64 ((ms.length : Int) - 1)) < (a : Int)) := df st 2
  rw [show IntKind.i64.wrap ((ms.length : Int) - 1) = (ms.length : Int) - 1 from wrap_i64 (by omega) (by omega)] at f21
  have f22 : ¬ ((a : Int) < 0) := df st 3
  have f23 : (okG ms ks) = true := bf st 4
  have hok := f23
  have hlen0 := okG_lenA hok
  exfalso; omega
 ·
  intro vs ls H24 E24 st hE
  have f25 : ¬ ((IntKind.wrap .i64 ((ms.length : Int) - 1)) < (b : Int)) := df st 0
  rw [show IntKind.i64.wrap ((ms.length : Int) - 1) = (ms.length : Int) - 1 from wrap_i64 (by omega) (by omega)] at f25
  have f26 : ¬ ((b : Int) < 0) := df st 1
  have f27 : ¬ ((IntKind.wrap .i64 ((ms.length : Int) - 1)) < (a : Int)) := df st 2
  rw [show IntKind.i64.wrap ((ms.length : Int) - 1) = (ms.length : Int) - 1 from wrap_i64 (by omega) (by omega)] at f27
  have f28 : ¬ ((a : Int) < 0) := df st 3
  have f29 : (okG ms ks) = true := bf st 4
  have hok := f29
  have hlen0 := okG_lenA hok
  have b30 := eo st hE 31 (.int .i64 (ms.length : Int))
  have b31 := eo st hE 8 (.int .i64 (ms.length : Int))
  have b32 := eo st hE 1 (.int .i64 (a : Int))
  have b33 := eo st hE 3 (.ptr p3 0)
  have b34 := eo st hE 2 (.int .i64 (b : Int))
  have g35 : Grew H2 H24 := (gk st)
  have g36 : Grew H H24 := Grew.trans g10 g35
  have r37 := g35.at r5
  clear st hE vs ls
  have hzn : (ms.length : Int) = ((ms.length : Nat) : Int) := rfl
  have e40 : E24 31 = .int .i64 ((ms.length : Nat) : Int) := by rw [b30, hzn]
  refine res_mkF (d := some 32) (sz := 1) (bytes := 8) (zs := [.int .i64 0]) (x := .tmp 31) (y := .tmp 31) (by kernel_rfl) (n := ms.length) e40 e40 (by omega) (by omega) ?_
  intro S38 H39 sS38 fS38 gS38
  have ne41 : ApartL (S38) p3 := fS38.apartL (H24.lt_of_get r37)
  have fr42 : FreshS H.next (S38) := fS38.mono g36.next
  have g43 : Grew H H39 := Grew.trans g36 gS38
  have r44 := gS38.at r37
  have q45 := q11.app (.cons sS38.one .nil : KdsL [.one] [S38])
  refine run_mc (φ := φ0) (pm := pmR 1 [] 0) 20 (ws := [⟨p3, 0, [n1 0, n1 1], false⟩]) (env := [(31, nI 5), (8, nI 5), (1, nI 2), (3, .ptr 0 0), (2, nI 3), (32, n1 6)]) q45 (.cons (wR r44 q45) .nil) (sepOk_ro rfl) .nil (eC q45 (.cons (put_ne rfl b30) (.cons (put_ne rfl b31) (.cons (put_ne rfl b32) (.cons (put_ne rfl b33) (.cons (put_ne rfl b34) (.cons put_same .nil))))))) tb_ok ap_ok ?_
  refine all1 (by kernel_rfl) ?_
  intro vs ls H46 E46 st hE
  have b47 := eo st hE 10 (.int .i64 0)
  have b48 := eo st hE 8 (.int .i64 (ms.length : Int))
  have b49 := eo st hE 9 S38
  have b50 := eo st hE 1 (.int .i64 (a : Int))
  have b51 := eo st hE 3 (.ptr p3 0)
  have b52 := eo st hE 2 (.int .i64 (b : Int))
  have g53 : Grew H39 H46 := (gk st)
  have g54 : Grew H H46 := Grew.trans g43 g53
  have r55 := g53.at r44
  have s56 := sS38.grew g53
  clear st hE vs ls
  refine res_loop (by kernel_rfl) (fun z E H' => ∃ (i : Nat), z + i = ms.length ∧ E 8 = .int .i64 (ms.length : Int) ∧ E 9 = S38 ∧ E 1 = .int .i64 (a : Int) ∧ E 3 = .ptr p3 0 ∧ E 2 = .int .i64 (b : Int) ∧ E 10 = .int .i64 (i : Int) ∧ Grew H H' ∧ H'.get p3 = some (.row [S, Sk] true) ∧ SlW H' 1 (vecI (fillF i) ms.length) S38) (ms.length) ⟨0, by omega, b48, b49, b50, b51, b52, b47, g54, r55, (by rw [← fill_0]; first | exact s56 | exact (s56).toW)⟩ ?_
  rintro z57 Ei57 Hi57 ⟨i57, hz57, c57_8, c57_9, c57_1, c57_3, c57_2, ci57, gt57, r57_0, so57_0⟩
  have q58 := q45.app (.cons ⟨_, rfl⟩ .nil : KdsL [KI] [.int .i64 (i57 : Int)])
  refine run_mc (φ := φ0) (pm := pmR 1 [] 0) 20 (ws := [⟨p3, 0, [n1 0, n1 1], false⟩]) (env := [(8, nI 5), (9, n1 6), (1, nI 2), (3, .ptr 0 0), (2, nI 3), (10, nI 7)]) q58 (.cons (wR r57_0 q58) .nil) (sepOk_ro rfl) .nil (eC q58 (.cons c57_8 (.cons c57_9 (.cons c57_1 (.cons c57_3 (.cons c57_2 (.cons ci57 .nil))))))) tb_ok ap_ok ?_
  refine all2 (by kernel_rfl) ?_ ?_
  ·
   intro vs ls H59 E59 st hE
   have f60 : (i57 : Int) < (ms.length : Int) := dt st 0
   have b61 := eo st hE 38 S38
   have b62 := eo st hE 39 (.int .i64 (i57 : Int))
   have b63 := eo st hE 10 (.int .i64 (i57 : Int))
   have b64 := eo st hE 8 (.int .i64 (ms.length : Int))
   have b65 := eo st hE 9 S38
   have b66 := eo st hE 1 (.int .i64 (a : Int))
   have b67 := eo st hE 3 (.ptr p3 0)
   have b68 := eo st hE 2 (.int .i64 (b : Int))
   have g69 : Grew Hi57 H59 := (gk st)
   have g70 : Grew H H59 := Grew.trans gt57 g69
   have r71 := g69.at r57_0
   have s72 := so57_0.grew g69
   clear st hE vs ls
   have hlt73 : i57 < (vecI (fillF i57) ms.length).length := by rw [vecI_len]; omega
   obtain ⟨lS73, cap73, rest73, wr73, eS73, gS73⟩ := (s72.toL).isSl hlt73
   have ne74 : Apart p3 lS73 := ⟨fun e => (show ApartL (S38) p3 by assumption).ne ⟨0, _, _, _, by rw [e]; exact eS73⟩⟩
   obtain ⟨v73_0, hm73, hv73⟩ := vec_parts' (fillF i57) ms.length i57 hlt73
   have he73 : (vecI (fillF i57) ms.length).getD i57 [] = [.int .i64 v73_0] := by rw [← hm73, List.getD_eq_getElem?_getD, List.getElem?_eq_getElem hlt73]; rfl
   have q75 := q58.app (.cons ⟨_, rfl⟩ .nil : KdsL [KI] [.int .i64 v73_0])
   refine run_mc (φ := φ0) (pm := pmR 2 [(.ia 1 (n1 6) (nI 7), .ptr 1 0)] 0) 20 (ws := [⟨p3, 0, [n1 0, n1 1], false⟩, ⟨lS73, (i57 * 1), [nI 8], false⟩]) (env := [(38, n1 6), (39, nI 7), (10, nI 7), (8, nI 5), (9, n1 6), (1, nI 2), (3, .ptr 0 0), (2, nI 3)]) q75 (.cons (wR r71 q75) (.cons (win_elem (vecI_recs (fillF i57) ms.length) gS73 hlt73 rfl (by rw [hm73]; exact (dL q75))) .nil)) (sepOk_ro rfl) (.cons (rule_iaS (k := i57) (dE q75) eS73 (dE q75) hlt73 rfl) .nil) (eC q75 (.cons b61 (.cons b62 (.cons b63 (.cons b64 (.cons b65 (.cons b66 (.cons b67 (.cons b68 .nil))))))))) tb_ok ap_ok ?_
   refine all1 (by kernel_rfl) ?_
   intro vs ls H76 E76 st hE
   have b77 := eo st hE 40 (.ptr lS73 ((i57 * 1) + 0))
   have b78 := eo st hE 10 (.int .i64 (i57 : Int))
   have b79 := eo st hE 8 (.int .i64 (ms.length : Int))
   have b80 := eo st hE 9 S38
   have b81 := eo st hE 1 (.int .i64 (a : Int))
   have b82 := eo st hE 3 (.ptr p3 0)
   have b83 := eo st hE 2 (.int .i64 (b : Int))
   have g84 : Grew H59 H76 := (gk st)
   have g85 : Grew H H76 := Grew.trans g70 g84
   have r86 := g84.at r71
   have s88 := s72.grew g84
   clear st hE vs ls
   refine res_storeS (d := none) (n := 1) (x := .tmp 40) (y := .const (.int .i64 (-1))) (by kernel_rfl) (S := S38) (ms := (vecI (fillF i57) ms.length)) (k := i57) (m' := [.int .i64 (-1)]) (s88) eS73 b77 hlt73 (vecI_recs (fillF i57) ms.length).len rfl rfl rfl rfl ?_
   intro H89 s89 oo89
   have hln89 : ((vecI (fillF i57) ms.length).set i57 [.int .i64 (-1)]).length = (vecI (fillF i57) ms.length).length := by simp
   have g90 : Grew H H89 := OnlyS.own g85 fr42 oo89
   have r91 := oo89.at r86 (by assumption)
   rw [vecI_set] at s89
   refine run_mc (φ := φ0) (pm := pmR 1 [] 0) 20 (ws := [⟨p3, 0, [n1 0, n1 1], false⟩]) (env := [(10, nI 7), (8, nI 5), (9, n1 6), (1, nI 2), (3, .ptr 0 0), (2, nI 3)]) q75 (.cons (wR r91 q75) .nil) (sepOk_ro rfl) .nil (eC q75 (.cons (put_no b78) (.cons (put_no b79) (.cons (put_no b80) (.cons (put_no b81) (.cons (put_no b82) (.cons (put_no b83) .nil))))))) tb_ok ap_ok ?_
   refine all1 (by kernel_rfl) ?_
   intro vs ls H93 E93 st hE
   obtain ⟨w94, hw94⟩ : ∃ z, z = (IntKind.wrap .i64 ((i57 : Int) + 1)) := ⟨_, rfl⟩
   have b95 : E93 10 = .int .i64 w94 := by rw [hw94]; exact eo st hE 10 _
   have b96 := eo st hE 8 (.int .i64 (ms.length : Int))
   have b97 := eo st hE 9 S38
   have b98 := eo st hE 1 (.int .i64 (a : Int))
   have b99 := eo st hE 3 (.ptr p3 0)
   have b100 := eo st hE 2 (.int .i64 (b : Int))
   have g101 : Grew H89 H93 := (gk st)
   have g102 : Grew H H93 := Grew.trans g90 g101
   have r103 := g101.at r91
   have s104 := s89.grew g101
   clear st hE vs ls
   have hz9 : z57 - 1 < z57 := by omega
   have hy9 : z57 - 1 + (i57 + 1) = ms.length := by omega
   have hi9 : E93 10 = .int .i64 ((i57 + 1 : Nat) : Int) := by rw [b95, hw94, wrap64 (by omega)]
   have hn9 : vecI (fillF (i57 + 1)) ms.length = vecI (updF (fillF i57) i57 (-1)) ms.length := fill_succ _ _
   exact res_norm (by kernel_rfl) ⟨z57 - 1, hz9, i57 + 1, hy9, b96, b97, b98, b99, b100, hi9, g102, r103, (by rw [hn9]; exact s104)⟩
  ·
   intro vs ls H105 E105 st hE
   have f106 : ¬ ((i57 : Int) < (ms.length : Int)) := df st 0
   have b107 := eo st hE 10 (.int .i64 (i57 : Int))
   have b108 := eo st hE 8 (.int .i64 (ms.length : Int))
   have b109 := eo st hE 33 (.int .i64 (i57 : Int))
   have b110 := eo st hE 34 (.int .i64 (ms.length : Int))
   obtain ⟨w111, hw111⟩ : ∃ z, z = (decide ((i57 : Int) < (ms.length : Int))) := ⟨_, rfl⟩
   have b112 : E105 35 = .bool w111 := by rw [hw111]; exact eo st hE 35 _
   have b113 := eo st hE 9 S38
   have b114 := eo st hE 1 (.int .i64 (a : Int))
   have b115 := eo st hE 3 (.ptr p3 0)
   have b116 := eo st hE 2 (.int .i64 (b : Int))
   have g117 : Grew Hi57 H105 := (gk st)
   have g118 : Grew H H105 := Grew.trans gt57 g117
   have r119 := g117.at r57_0
   have s120 := so57_0.grew g117
   clear st hE vs ls
   refine res_exit (id := 0) (by kernel_rfl) ?_
   have q121 := q58.app (.cons ⟨_, rfl⟩ .nil : KdsL [.bool] [.bool w111])
   refine run_mc (φ := φ0) (pm := pmR 1 [] 0) 20 (ws := [⟨p3, 0, [n1 0, n1 1], false⟩]) (env := [(10, nI 7), (8, nI 5), (33, nI 7), (34, nI 5), (35, nB 8), (9, n1 6), (1, nI 2), (3, .ptr 0 0), (2, nI 3)]) q121 (.cons (wR r119 q121) .nil) (sepOk_ro rfl) .nil (eC q121 (.cons b107 (.cons b108 (.cons b109 (.cons b110 (.cons b112 (.cons b113 (.cons b114 (.cons b115 (.cons b116 .nil)))))))))) tb_ok ap_ok ?_
   refine all1 (by kernel_rfl) ?_
   intro vs ls H122 E122 st hE
   have b123 := eo st hE 41 S38
   have b124 := eo st hE 42 (.int .i64 (a : Int))
   have b125 := eo st hE 8 (.int .i64 (ms.length : Int))
   have b126 := eo st hE 3 (.ptr p3 0)
   have b127 := eo st hE 9 S38
   have b128 := eo st hE 2 (.int .i64 (b : Int))
   have g129 : Grew H105 H122 := (gk st)
   have g130 : Grew H H122 := Grew.trans g118 g129
   have r131 := g129.at r119
   have s132 := s120.grew g129
   clear st hE vs ls
   have hlt133 : a < (vecI (fillF i57) ms.length).length := by rw [vecI_len]; omega
   obtain ⟨lS133, cap133, rest133, wr133, eS133, gS133⟩ := (s132.toL).isSl hlt133
   have ne134 : Apart p3 lS133 := ⟨fun e => (show ApartL (S38) p3 by assumption).ne ⟨0, _, _, _, by rw [e]; exact eS133⟩⟩
   obtain ⟨v133_0, hm133, hv133⟩ := vec_parts' (fillF i57) ms.length a hlt133
   have he133 : (vecI (fillF i57) ms.length).getD a [] = [.int .i64 v133_0] := by rw [← hm133, List.getD_eq_getElem?_getD, List.getElem?_eq_getElem hlt133]; rfl
   have q135 := q121.app (.cons ⟨_, rfl⟩ .nil : KdsL [KI] [.int .i64 v133_0])
   refine run_mc (φ := φ0) (pm := pmR 2 [(.ia 1 (n1 6) (nI 2), .ptr 1 0)] 0) 20 (ws := [⟨p3, 0, [n1 0, n1 1], false⟩, ⟨lS133, (a * 1), [nI 9], false⟩]) (env := [(41, n1 6), (42, nI 2), (8, nI 5), (3, .ptr 0 0), (9, n1 6), (2, nI 3)]) q135 (.cons (wR r131 q135) (.cons (win_elem (vecI_recs (fillF i57) ms.length) gS133 hlt133 rfl (by rw [hm133]; exact (dL q135))) .nil)) (sepOk_ro rfl) (.cons (rule_iaS (k := a) (dE q135) eS133 (dE q135) hlt133 rfl) .nil) (eC q135 (.cons b123 (.cons b124 (.cons b125 (.cons b126 (.cons b127 (.cons b128 .nil))))))) tb_ok ap_ok ?_
   refine all1 (by kernel_rfl) ?_
   intro vs ls H136 E136 st hE
   have b137 := eo st hE 43 (.ptr lS133 ((a * 1) + 0))
   have b138 := eo st hE 8 (.int .i64 (ms.length : Int))
   have b139 := eo st hE 3 (.ptr p3 0)
   have b140 := eo st hE 9 S38
   have b141 := eo st hE 2 (.int .i64 (b : Int))
   have g142 : Grew H122 H136 := (gk st)
   have g143 : Grew H H136 := Grew.trans g130 g142
   have r144 := g142.at r131
   have s146 := s132.grew g142
   clear st hE vs ls
   refine res_storeS (d := none) (n := 1) (x := .tmp 43) (y := .const (.int .i64 0)) (by kernel_rfl) (S := S38) (ms := (vecI (fillF i57) ms.length)) (k := a) (m' := [.int .i64 0]) (s146) eS133 b137 hlt133 (vecI_recs (fillF i57) ms.length).len rfl rfl rfl rfl ?_
   intro H147 s147 oo147
   have hln147 : ((vecI (fillF i57) ms.length).set a [.int .i64 0]).length = (vecI (fillF i57) ms.length).length := by simp
   have g148 : Grew H H147 := OnlyS.own g143 fr42 oo147
   have r149 := oo147.at r144 (by assumption)
   rw [vecI_set] at s147
   refine run_mc (φ := φ0) (pm := pmR 1 [] 0) 20 (ws := [⟨p3, 0, [n1 0, n1 1], false⟩]) (env := [(8, nI 5), (3, .ptr 0 0), (9, n1 6), (2, nI 3)]) q135 (.cons (wR r149 q135) .nil) (sepOk_ro rfl) .nil (eC q135 (.cons (put_no b138) (.cons (put_no b139) (.cons (put_no b140) (.cons (put_no b141) .nil))))) tb_ok ap_ok ?_
   refine all1 (by kernel_rfl) ?_
   intro vs ls H151 E151 st hE
   have b152 := eo st hE 11 (.int .i64 0)
   have b153 := eo st hE 8 (.int .i64 (ms.length : Int))
   have b154 := eo st hE 3 (.ptr p3 0)
   have b155 := eo st hE 9 S38
   have b156 := eo st hE 2 (.int .i64 (b : Int))
   have g157 : Grew H147 H151 := (gk st)
   have g158 : Grew H H151 := Grew.trans g148 g157
   have r159 := g157.at r149
   have s160 := s147.grew g157
   clear st hE vs ls
   refine res_loop (by kernel_rfl) (fun z E H' => ∃ (i : Nat), z + i = ms.length ∧ E 8 = .int .i64 (ms.length : Int) ∧ E 3 = .ptr p3 0 ∧ E 9 = S38 ∧ E 2 = .int .i64 (b : Int) ∧ E 11 = .int .i64 (i : Int) ∧ Grew H H' ∧ H'.get p3 = some (.row [S, Sk] true) ∧ SlW H' 1 (vecI (roundsF (esK ks) a i) ms.length) S38) (ms.length) ⟨0, by omega, b153, b154, b155, b156, b152, g158, r159, (by have h := s160; rw [show i57 = ms.length by omega] at h; rw [← fill_all (es := esK ks) (a := a)]; exact h)⟩ ?_
   rintro z161 Ei161 Hi161 ⟨i161, hz161, c161_8, c161_3, c161_9, c161_2, ci161, gt161, r161_0, so161_0⟩
   have q162 := q135.app (.cons ⟨_, rfl⟩ .nil : KdsL [KI] [.int .i64 (i161 : Int)])
   refine run_mc (φ := φ0) (pm := pmR 1 [] 0) 20 (ws := [⟨p3, 0, [n1 0, n1 1], false⟩]) (env := [(8, nI 5), (3, .ptr 0 0), (9, n1 6), (2, nI 3), (11, nI 10)]) q162 (.cons (wR r161_0 q162) .nil) (sepOk_ro rfl) .nil (eC q162 (.cons c161_8 (.cons c161_3 (.cons c161_9 (.cons c161_2 (.cons ci161 .nil)))))) tb_ok ap_ok ?_
   refine all2 (by kernel_rfl) ?_ ?_
   ·
    intro vs ls H163 E163 st hE
    have f164 : (i161 : Int) < (ms.length : Int) := dt st 0
    have b165 := eo st hE 12 (.int .i64 0)
    have b166 := eo st hE 3 (.ptr p3 0)
    have b167 := eo st hE 9 S38
    have b168 := eo st hE 11 (.int .i64 (i161 : Int))
    have b169 := eo st hE 8 (.int .i64 (ms.length : Int))
    have b170 := eo st hE 2 (.int .i64 (b : Int))
    have g171 : Grew Hi161 H163 := (gk st)
    have g172 : Grew H H163 := Grew.trans gt161 g171
    have r173 := g171.at r161_0
    have s174 := so161_0.grew g171
    clear st hE vs ls
    refine res_loop (by kernel_rfl) (fun z E H' => ∃ (i : Nat), z + i = ks.length ∧ E 3 = .ptr p3 0 ∧ E 9 = S38 ∧ E 11 = .int .i64 (i161 : Int) ∧ E 8 = .int .i64 (ms.length : Int) ∧ E 2 = .int .i64 (b : Int) ∧ E 12 = .int .i64 (i : Int) ∧ Grew H H' ∧ H'.get p3 = some (.row [S, Sk] true) ∧ SlW H' 1 (vecI (rowE (esK ks) (i161 : Int) (roundsF (esK ks) a i161) i) ms.length) S38) (ks.length) ⟨0, by omega, b166, b167, b168, b169, b170, b165, g172, r173, s174⟩ ?_
    rintro z175 Ei175 Hi175 ⟨i175, hz175, c175_3, c175_9, c175_11, c175_8, c175_2, ci175, gt175, r175_0, so175_0⟩
    have q176 := q162.app (.cons ⟨_, rfl⟩ (.cons ⟨_, rfl⟩ .nil) : KdsL [KI, KI] [.int .i64 (i175 : Int), .int .i64 (ks.length : Int)])
    refine run_mc (φ := φ0) (pm := pmR 1 [(.len (n1 1), nI 12)] 0) 20 (ws := [⟨p3, 0, [n1 0, n1 1], false⟩]) (env := [(3, .ptr 0 0), (9, n1 6), (11, nI 10), (8, nI 5), (2, nI 3), (12, nI 11)]) q176 (.cons (wR r175_0 q176) .nil) (sepOk_ro rfl) (.cons (⟨_, _, (dE q176), (dE q176), slLen hSk⟩) .nil) (eC q176 (.cons c175_3 (.cons c175_9 (.cons c175_11 (.cons c175_8 (.cons c175_2 (.cons ci175 .nil))))))) tb_ok ap_ok ?_
    refine all2 (by kernel_rfl) ?_ ?_
    ·
     intro vs ls H177 E177 st hE
     have f178 : (i175 : Int) < (ks.length : Int) := dt st 0
     have b179 := eo st hE 57 Sk
     have b180 := eo st hE 58 (.int .i64 (i175 : Int))
     have b181 := eo st hE 9 S38
     have b182 := eo st hE 11 (.int .i64 (i161 : Int))
     have b183 := eo st hE 12 (.int .i64 (i175 : Int))
     have b184 := eo st hE 8 (.int .i64 (ms.length : Int))
     have b185 := eo st hE 3 (.ptr p3 0)
     have b186 := eo st hE 2 (.int .i64 (b : Int))
     have g187 : Grew Hi175 H177 := (gk st)
     have g188 : Grew H H177 := Grew.trans gt175 g187
     have r189 := g187.at r175_0
     have s190 := so175_0.grew g187
     clear st hE vs ls
     have hlt191 : i175 < ks.length := by omega
     obtain ⟨lS191, cap191, rest191, wr191, eS191, gB191⟩ := hSk.isSl hlt191
     have gS191 := g188.at gB191
     have ne192 := apn gB191 op3
     have ne193 : ApartL (S38) lS191 := fr42.apartL (H.lt_of_get gB191)
     obtain ⟨v191_0, v191_1, v191_2, v191_3, v191_4, v191_5, hm191, ho191_2, ho191_3, ho191_4, ho191_5, ha191, hb191, hne191⟩ := okG_linkA hok hrk i175 hlt191
     have he191 : ks.getD i175 [] = [.int .i64 (v191_0 : Int), .int .i64 (v191_1 : Int), .flt .f32 v191_2, .flt .f32 v191_3, .flt .f32 v191_4, .flt .f32 v191_5] := by rw [← hm191, List.getD_eq_getElem?_getD, List.getElem?_eq_getElem hlt191]; rfl
     have q194 := q176.app (.cons ⟨_, rfl⟩ (.cons ⟨_, rfl⟩ (.cons ⟨_, rfl, ho191_2⟩ (.cons ⟨_, rfl, ho191_3⟩ (.cons ⟨_, rfl, ho191_4⟩ (.cons ⟨_, rfl, ho191_5⟩ .nil))))) : KdsL [KI, KI, KF, KF, KF, KF] [.int .i64 (v191_0 : Int), .int .i64 (v191_1 : Int), .flt .f32 v191_2, .flt .f32 v191_3, .flt .f32 v191_4, .flt .f32 v191_5])
     refine run_mc (φ := φ0) (pm := pmR 2 [(.ia 6 (n1 1) (nI 11), .ptr 1 0)] 0) 20 (ws := [⟨p3, 0, [n1 0, n1 1], false⟩, ⟨lS191, (i175 * 6), [nI 13, nI 14, nF 15, nF 16, nF 17, nF 18], false⟩]) (env := [(57, n1 1), (58, nI 11), (9, n1 6), (11, nI 10), (12, nI 11), (8, nI 5), (3, .ptr 0 0), (2, nI 3)]) q194 (.cons (wR r189 q194) (.cons (win_elem hrk gS191 hlt191 rfl (by rw [hm191]; exact (dL q194))) .nil)) (sepOk_ro rfl) (.cons (rule_iaS (k := i175) (dE q194) eS191 (dE q194) hlt191 rfl) .nil) (eC q194 (.cons b179 (.cons b180 (.cons b181 (.cons b182 (.cons b183 (.cons b184 (.cons b185 (.cons b186 .nil))))))))) tb_ok ap_ok ?_
     refine all1 (by kernel_rfl) ?_
     intro vs ls H195 E195 st hE
     have b196 := eo st hE 60 S38
     have b197 := eo st hE 64 (.int .i64 (v191_0 : Int))
     have b198 := eo st hE 11 (.int .i64 (i161 : Int))
     have b199 := eo st hE 9 S38
     have b200 := eo st hE 13 (.ptr lS191 ((i175 * 6) + 0))
     have b201 := eo st hE 12 (.int .i64 (i175 : Int))
     have b202 := eo st hE 8 (.int .i64 (ms.length : Int))
     have b203 := eo st hE 3 (.ptr p3 0)
     have b204 := eo st hE 2 (.int .i64 (b : Int))
     have g205 : Grew H177 H195 := (gk st)
     have g206 : Grew H H195 := Grew.trans g188 g205
     have r207 := g205.at r189
     have r208 := g205.at gS191
     have s209 := s190.grew g205
     clear st hE vs ls
     have hlt210 : v191_0 < (vecI (rowE (esK ks) (i161 : Int) (roundsF (esK ks) a i161) i175) ms.length).length := by rw [vecI_len]; omega
     obtain ⟨lS210, cap210, rest210, wr210, eS210, gS210⟩ := (s209.toL).isSl hlt210
     have ne211 : Apart p3 lS210 := ⟨fun e => (show ApartL (S38) p3 by assumption).ne ⟨0, _, _, _, by rw [e]; exact eS210⟩⟩
     obtain ⟨v210_0, hm210, hv210⟩ := vec_parts' (rowE (esK ks) (i161 : Int) (roundsF (esK ks) a i161) i175) ms.length v191_0 hlt210
     have he210 : (vecI (rowE (esK ks) (i161 : Int) (roundsF (esK ks) a i161) i175) ms.length).getD v191_0 [] = [.int .i64 v210_0] := by rw [← hm210, List.getD_eq_getElem?_getD, List.getElem?_eq_getElem hlt210]; rfl
     have q212 := q194.app (.cons ⟨_, rfl⟩ .nil : KdsL [KI] [.int .i64 v210_0])
     refine run_mc (φ := φ0) (pm := pmR 3 [(.ia 1 (n1 6) (nI 13), .ptr 2 0)] 0) 20 (ws := [⟨p3, 0, [n1 0, n1 1], false⟩, ⟨lS191, (i175 * 6), [nI 13, nI 14, nF 15, nF 16, nF 17, nF 18], false⟩, ⟨lS210, (v191_0 * 1), [nI 19], false⟩]) (env := [(60, n1 6), (64, nI 13), (11, nI 10), (9, n1 6), (13, .ptr 1 0), (12, nI 11), (8, nI 5), (3, .ptr 0 0), (2, nI 3)]) q212 (.cons (wR r207 q212) (.cons (win_elem hrk r208 hlt191 rfl (by rw [hm191]; exact (dL q212))) (.cons (win_elem (vecI_recs (rowE (esK ks) (i161 : Int) (roundsF (esK ks) a i161) i175) ms.length) gS210 hlt210 rfl (by rw [hm210]; exact (dL q212))) .nil))) (sepOk_ro rfl) (.cons (rule_iaS (k := v191_0) (dE q212) eS210 (dE q212) hlt210 rfl) .nil) (eC q212 (.cons b196 (.cons b197 (.cons b198 (.cons b199 (.cons b200 (.cons b201 (.cons b202 (.cons b203 (.cons b204 .nil)))))))))) tb_ok ap_ok ?_
     refine all2 (by kernel_rfl) ?_ ?_
     ·
      intro vs ls H213 E213 st hE
      have f214 : v210_0 = (i161 : Int) := dt st 0
      have b215 := eo st hE 70 S38
      have b216 := eo st hE 74 (.int .i64 (v191_1 : Int))
      obtain ⟨w217, hw217⟩ : ∃ z, z = (decide (v210_0 = (i161 : Int))) := ⟨_, rfl⟩
      have b218 : E213 69 = .bool w217 := by rw [hw217]; exact eo st hE 69 _
      have b219 := eo st hE 9 S38
      have b220 := eo st hE 13 (.ptr lS191 ((i175 * 6) + 0))
      have b221 := eo st hE 11 (.int .i64 (i161 : Int))
      have b222 := eo st hE 12 (.int .i64 (i175 : Int))
      have b223 := eo st hE 8 (.int .i64 (ms.length : Int))
      have b224 := eo st hE 3 (.ptr p3 0)
      have b225 := eo st hE 2 (.int .i64 (b : Int))
      have g226 : Grew H195 H213 := (gk st)
      have g227 : Grew H H213 := Grew.trans g206 g226
      have r228 := g226.at r207
      have r229 := g226.at r208
      have s231 := s209.grew g226
      clear st hE vs ls
      have hlt232 : v191_1 < (vecI (rowE (esK ks) (i161 : Int) (roundsF (esK ks) a i161) i175) ms.length).length := by rw [vecI_len]; omega
      obtain ⟨lS232, cap232, rest232, wr232, eS232, gS232⟩ := (s231.toL).isSl hlt232
      have ne233 : Apart p3 lS232 := ⟨fun e => (show ApartL (S38) p3 by assumption).ne ⟨0, _, _, _, by rw [e]; exact eS232⟩⟩
      obtain ⟨v232_0, hm232, hv232⟩ := vec_parts' (rowE (esK ks) (i161 : Int) (roundsF (esK ks) a i161) i175) ms.length v191_1 hlt232
      have he232 : (vecI (rowE (esK ks) (i161 : Int) (roundsF (esK ks) a i161) i175) ms.length).getD v191_1 [] = [.int .i64 v232_0] := by rw [← hm232, List.getD_eq_getElem?_getD, List.getElem?_eq_getElem hlt232]; rfl
      have q234 := q212.app (.cons ⟨_, rfl⟩ (.cons ⟨_, rfl⟩ .nil) : KdsL [.bool, KI] [.bool w217, .int .i64 v232_0])
      refine run_mc (φ := φ0) (pm := pmR 3 [(.ia 1 (n1 6) (nI 14), .ptr 2 0)] 0) 20 (ws := [⟨p3, 0, [n1 0, n1 1], false⟩, ⟨lS191, (i175 * 6), [nI 13, nI 14, nF 15, nF 16, nF 17, nF 18], false⟩, ⟨lS232, (v191_1 * 1), [nI 21], false⟩]) (env := [(70, n1 6), (74, nI 14), (69, nB 20), (9, n1 6), (13, .ptr 1 0), (11, nI 10), (12, nI 11), (8, nI 5), (3, .ptr 0 0), (2, nI 3)]) q234 (.cons (wR r228 q234) (.cons (win_elem hrk r229 hlt191 rfl (by rw [hm191]; exact (dL q234))) (.cons (win_elem (vecI_recs (rowE (esK ks) (i161 : Int) (roundsF (esK ks) a i161) i175) ms.length) gS232 hlt232 rfl (by rw [hm232]; exact (dL q234))) .nil))) (sepOk_ro rfl) (.cons (rule_iaS (k := v191_1) (dE q234) eS232 (dE q234) hlt232 rfl) .nil) (eC q234 (.cons b215 (.cons b216 (.cons b218 (.cons b219 (.cons b220 (.cons b221 (.cons b222 (.cons b223 (.cons b224 (.cons b225 .nil))))))))))) tb_ok ap_ok ?_
      refine all5 (by kernel_rfl) ?_ ?_ ?_ ?_ ?_
      ·
       intro vs ls H235 E235 st hE
       have f236 : v232_0 < 0 := dt st 0
       have f237 : w217 = true := bf st 1
       have b238 := eo st hE 86 (.ptr lS232 ((v191_1 * 1) + 0))
       obtain ⟨w239, hw239⟩ : ∃ z, z = (IntKind.wrap .i64 ((i161 : Int) + 1)) := ⟨_, rfl⟩
       have b240 : E235 85 = .int .i64 w239 := by rw [hw239]; exact eo st hE 85 _
       have b241 := eo st hE 9 S38
       have b242 := eo st hE 13 (.ptr lS191 ((i175 * 6) + 0))
       have b243 := eo st hE 11 (.int .i64 (i161 : Int))
       have b244 := eo st hE 12 (.int .i64 (i175 : Int))
       have b245 := eo st hE 8 (.int .i64 (ms.length : Int))
       have b246 := eo st hE 3 (.ptr p3 0)
       have b247 := eo st hE 2 (.int .i64 (b : Int))
       have g248 : Grew H213 H235 := (gk st)
       have g249 : Grew H H235 := Grew.trans g227 g248
       have r250 := g248.at r228
       have r251 := g248.at r229
       have s253 := s231.grew g248
       clear st hE vs ls
       refine res_storeS (d := none) (n := 1) (x := .tmp 86) (y := .tmp 85) (by kernel_rfl) (S := S38) (ms := (vecI (rowE (esK ks) (i161 : Int) (roundsF (esK ks) a i161) i175) ms.length)) (k := v191_1) (m' := [.int .i64 w239]) (s253) eS232 b238 hlt232 (vecI_recs (rowE (esK ks) (i161 : Int) (roundsF (esK ks) a i161) i175) ms.length).len (by show AV.cells (E235 85) = _; rw [b240]; rfl) rfl rfl rfl ?_
       intro H254 s254 oo254
       have hln254 : ((vecI (rowE (esK ks) (i161 : Int) (roundsF (esK ks) a i161) i175) ms.length).set v191_1 [.int .i64 w239]).length = (vecI (rowE (esK ks) (i161 : Int) (roundsF (esK ks) a i161) i175) ms.length).length := by simp
       have g255 : Grew H H254 := OnlyS.own g249 fr42 oo254
       have r256 := oo254.at r250 (by assumption)
       have r257 := oo254.at r251 (by assumption)
       rw [vecI_set] at s254
       have q258 := q234.app (.cons ⟨_, rfl⟩ .nil : KdsL [KI] [.int .i64 w239])
       refine run_mc (φ := φ0) (pm := pmR 2 [] 0) 20 (ws := [⟨p3, 0, [n1 0, n1 1], false⟩, ⟨lS191, (i175 * 6), [nI 13, nI 14, nF 15, nF 16, nF 17, nF 18], false⟩]) (env := [(85, nI 22), (9, n1 6), (13, .ptr 1 0), (11, nI 10), (12, nI 11), (8, nI 5), (3, .ptr 0 0), (2, nI 3)]) q258 (.cons (wR r256 q258) (.cons (win_elem hrk r257 hlt191 rfl (by rw [hm191]; exact (dL q258))) .nil)) (sepOk_ro rfl) .nil (eC q258 (.cons (put_no b240) (.cons (put_no b241) (.cons (put_no b242) (.cons (put_no b243) (.cons (put_no b244) (.cons (put_no b245) (.cons (put_no b246) (.cons (put_no b247) .nil))))))))) tb_ok ap_ok ?_
       refine all1 (by kernel_rfl) ?_
       intro vs ls H259 E259 st hE
       have b260 := eo st hE 87 S38
       have b261 := eo st hE 91 (.int .i64 (v191_1 : Int))
       have b262 := eo st hE 11 (.int .i64 (i161 : Int))
       have b263 := eo st hE 9 S38
       have b264 := eo st hE 13 (.ptr lS191 ((i175 * 6) + 0))
       have b265 := eo st hE 12 (.int .i64 (i175 : Int))
       have b266 := eo st hE 8 (.int .i64 (ms.length : Int))
       have b267 := eo st hE 3 (.ptr p3 0)
       have b268 := eo st hE 2 (.int .i64 (b : Int))
       have g269 : Grew H254 H259 := (gk st)
       have g270 : Grew H H259 := Grew.trans g255 g269
       have r271 := g269.at r256
       have r272 := g269.at r257
       have s273 := s254.grew g269
       clear st hE vs ls
       have hlt274 : v191_1 < (vecI (updF (rowE (esK ks) (i161 : Int) (roundsF (esK ks) a i161) i175) v191_1 w239) ms.length).length := by rw [vecI_len]; omega
       obtain ⟨lS274, cap274, rest274, wr274, eS274, gS274⟩ := (s273.toL).isSl hlt274
       have ne275 : Apart p3 lS274 := ⟨fun e => (show ApartL (S38) p3 by assumption).ne ⟨0, _, _, _, by rw [e]; exact eS274⟩⟩
       obtain ⟨v274_0, hm274, hv274⟩ := vec_parts' (updF (rowE (esK ks) (i161 : Int) (roundsF (esK ks) a i161) i175) v191_1 w239) ms.length v191_1 hlt274
       have he274 : (vecI (updF (rowE (esK ks) (i161 : Int) (roundsF (esK ks) a i161) i175) v191_1 w239) ms.length).getD v191_1 [] = [.int .i64 v274_0] := by rw [← hm274, List.getD_eq_getElem?_getD, List.getElem?_eq_getElem hlt274]; rfl
       have q276 := q258.app (.cons ⟨_, rfl⟩ .nil : KdsL [KI] [.int .i64 v274_0])
       refine run_mc (φ := φ0) (pm := pmR 3 [(.ia 1 (n1 6) (nI 14), .ptr 2 0)] 0) 20 (ws := [⟨p3, 0, [n1 0, n1 1], false⟩, ⟨lS191, (i175 * 6), [nI 13, nI 14, nF 15, nF 16, nF 17, nF 18], false⟩, ⟨lS274, (v191_1 * 1), [nI 23], false⟩]) (env := [(87, n1 6), (91, nI 14), (11, nI 10), (9, n1 6), (13, .ptr 1 0), (12, nI 11), (8, nI 5), (3, .ptr 0 0), (2, nI 3)]) q276 (.cons (wR r271 q276) (.cons (win_elem hrk r272 hlt191 rfl (by rw [hm191]; exact (dL q276))) (.cons (win_elem (vecI_recs (updF (rowE (esK ks) (i161 : Int) (roundsF (esK ks) a i161) i175) v191_1 w239) ms.length) gS274 hlt274 rfl (by rw [hm274]; exact (dL q276))) .nil))) (sepOk_ro rfl) (.cons (rule_iaS (k := v191_1) (dE q276) eS274 (dE q276) hlt274 rfl) .nil) (eC q276 (.cons b260 (.cons b261 (.cons b262 (.cons b263 (.cons b264 (.cons b265 (.cons b266 (.cons b267 (.cons b268 .nil)))))))))) tb_ok ap_ok ?_
       refine all2 (by kernel_rfl) ?_ ?_
       ·
        intro vs ls H277 E277 st hE
        have f278 : v274_0 = (i161 : Int) := dt st 0
        have b279 := eo st hE 97 S38
        have b280 := eo st hE 101 (.int .i64 (v191_0 : Int))
        obtain ⟨w281, hw281⟩ : ∃ z, z = (decide (v274_0 = (i161 : Int))) := ⟨_, rfl⟩
        have b282 : E277 96 = .bool w281 := by rw [hw281]; exact eo st hE 96 _
        have b283 := eo st hE 9 S38
        have b284 := eo st hE 13 (.ptr lS191 ((i175 * 6) + 0))
        have b285 := eo st hE 11 (.int .i64 (i161 : Int))
        have b286 := eo st hE 12 (.int .i64 (i175 : Int))
        have b287 := eo st hE 8 (.int .i64 (ms.length : Int))
        have b288 := eo st hE 3 (.ptr p3 0)
        have b289 := eo st hE 2 (.int .i64 (b : Int))
        have g290 : Grew H259 H277 := (gk st)
        have g291 : Grew H H277 := Grew.trans g270 g290
        have r292 := g290.at r271
        have r293 := g290.at r272
        have s295 := s273.grew g290
        clear st hE vs ls
        have hlt296 : v191_0 < (vecI (updF (rowE (esK ks) (i161 : Int) (roundsF (esK ks) a i161) i175) v191_1 w239) ms.length).length := by rw [vecI_len]; omega
        obtain ⟨lS296, cap296, rest296, wr296, eS296, gS296⟩ := (s295.toL).isSl hlt296
        have ne297 : Apart p3 lS296 := ⟨fun e => (show ApartL (S38) p3 by assumption).ne ⟨0, _, _, _, by rw [e]; exact eS296⟩⟩
        obtain ⟨v296_0, hm296, hv296⟩ := vec_parts' (updF (rowE (esK ks) (i161 : Int) (roundsF (esK ks) a i161) i175) v191_1 w239) ms.length v191_0 hlt296
        have he296 : (vecI (updF (rowE (esK ks) (i161 : Int) (roundsF (esK ks) a i161) i175) v191_1 w239) ms.length).getD v191_0 [] = [.int .i64 v296_0] := by rw [← hm296, List.getD_eq_getElem?_getD, List.getElem?_eq_getElem hlt296]; rfl
        have q298 := q276.app (.cons ⟨_, rfl⟩ (.cons ⟨_, rfl⟩ .nil) : KdsL [.bool, KI] [.bool w281, .int .i64 v296_0])
        refine run_mc (φ := φ0) (pm := pmR 3 [(.ia 1 (n1 6) (nI 13), .ptr 2 0)] 0) 20 (ws := [⟨p3, 0, [n1 0, n1 1], false⟩, ⟨lS191, (i175 * 6), [nI 13, nI 14, nF 15, nF 16, nF 17, nF 18], false⟩, ⟨lS296, (v191_0 * 1), [nI 25], false⟩]) (env := [(97, n1 6), (101, nI 13), (96, nB 24), (9, n1 6), (13, .ptr 1 0), (11, nI 10), (12, nI 11), (8, nI 5), (3, .ptr 0 0), (2, nI 3)]) q298 (.cons (wR r292 q298) (.cons (win_elem hrk r293 hlt191 rfl (by rw [hm191]; exact (dL q298))) (.cons (win_elem (vecI_recs (updF (rowE (esK ks) (i161 : Int) (roundsF (esK ks) a i161) i175) v191_1 w239) ms.length) gS296 hlt296 rfl (by rw [hm296]; exact (dL q298))) .nil))) (sepOk_ro rfl) (.cons (rule_iaS (k := v191_0) (dE q298) eS296 (dE q298) hlt296 rfl) .nil) (eC q298 (.cons b279 (.cons b280 (.cons b282 (.cons b283 (.cons b284 (.cons b285 (.cons b286 (.cons b287 (.cons b288 (.cons b289 .nil))))))))))) tb_ok ap_ok ?_
        refine all3 (by kernel_rfl) ?_ ?_ ?_
        ·
         intro vs ls H299 E299 st hE
         have f300 : v296_0 < 0 := dt st 0
         have f301 : w281 = true := bf st 1
         have b302 := eo st hE 113 (.ptr lS296 ((v191_0 * 1) + 0))
         obtain ⟨w303, hw303⟩ : ∃ z, z = (IntKind.wrap .i64 ((i161 : Int) + 1)) := ⟨_, rfl⟩
         have b304 : E299 112 = .int .i64 w303 := by rw [hw303]; exact eo st hE 112 _
         have b305 := eo st hE 12 (.int .i64 (i175 : Int))
         have b306 := eo st hE 11 (.int .i64 (i161 : Int))
         have b307 := eo st hE 8 (.int .i64 (ms.length : Int))
         have b308 := eo st hE 3 (.ptr p3 0)
         have b309 := eo st hE 9 S38
         have b310 := eo st hE 2 (.int .i64 (b : Int))
         have g311 : Grew H277 H299 := (gk st)
         have g312 : Grew H H299 := Grew.trans g291 g311
         have r313 := g311.at r292
         have s316 := s295.grew g311
         clear st hE vs ls
         refine res_storeS (d := none) (n := 1) (x := .tmp 113) (y := .tmp 112) (by kernel_rfl) (S := S38) (ms := (vecI (updF (rowE (esK ks) (i161 : Int) (roundsF (esK ks) a i161) i175) v191_1 w239) ms.length)) (k := v191_0) (m' := [.int .i64 w303]) (s316) eS296 b302 hlt296 (vecI_recs (updF (rowE (esK ks) (i161 : Int) (roundsF (esK ks) a i161) i175) v191_1 w239) ms.length).len (by show AV.cells (E299 112) = _; rw [b304]; rfl) rfl rfl rfl ?_
         intro H317 s317 oo317
         have hln317 : ((vecI (updF (rowE (esK ks) (i161 : Int) (roundsF (esK ks) a i161) i175) v191_1 w239) ms.length).set v191_0 [.int .i64 w303]).length = (vecI (updF (rowE (esK ks) (i161 : Int) (roundsF (esK ks) a i161) i175) v191_1 w239) ms.length).length := by simp
         have g318 : Grew H H317 := OnlyS.own g312 fr42 oo317
         have r319 := oo317.at r313 (by assumption)
         rw [vecI_set] at s317
         have q320 := q298.app (.cons ⟨_, rfl⟩ .nil : KdsL [KI] [.int .i64 w303])
         refine run_mc (φ := φ0) (pm := pmR 1 [] 0) 20 (ws := [⟨p3, 0, [n1 0, n1 1], false⟩]) (env := [(112, nI 26), (12, nI 11), (11, nI 10), (8, nI 5), (3, .ptr 0 0), (9, n1 6), (2, nI 3)]) q320 (.cons (wR r319 q320) .nil) (sepOk_ro rfl) .nil (eC q320 (.cons (put_no b304) (.cons (put_no b305) (.cons (put_no b306) (.cons (put_no b307) (.cons (put_no b308) (.cons (put_no b309) (.cons (put_no b310) .nil)))))))) tb_ok ap_ok ?_
         refine all1 (by kernel_rfl) ?_
         intro vs ls H321 E321 st hE
         obtain ⟨w322, hw322⟩ : ∃ z, z = (IntKind.wrap .i64 ((i175 : Int) + 1)) := ⟨_, rfl⟩
         have b323 : E321 12 = .int .i64 w322 := by rw [hw322]; exact eo st hE 12 _
         have b324 := eo st hE 3 (.ptr p3 0)
         have b325 := eo st hE 9 S38
         have b326 := eo st hE 11 (.int .i64 (i161 : Int))
         have b327 := eo st hE 8 (.int .i64 (ms.length : Int))
         have b328 := eo st hE 2 (.int .i64 (b : Int))
         have g329 : Grew H317 H321 := (gk st)
         have g330 : Grew H H321 := Grew.trans g318 g329
         have r331 := g329.at r319
         have s332 := s317.grew g329
         clear st hE vs ls
         have hz9 : z175 - 1 < z175 := by omega
         have hy9 : z175 - 1 + (i175 + 1) = ks.length := by omega
         have hi9 : E321 12 = .int .i64 ((i175 + 1 : Nat) : Int) := by rw [b323, hw322, wrap64 (by omega)]
         have hn9 : vecI (rowE (esK ks) (i161 : Int) (roundsF (esK ks) a i161) (i175 + 1)) ms.length = vecI (updF (updF (rowE (esK ks) (i161 : Int) (roundsF (esK ks) a i161) i175) v191_1 w239) v191_0 w303) ms.length := by
          refine congrArg (fun f => vecI f ms.length) ?_
          show stepE _ _ ((esK ks).getD i175 (0, 0)) = _
          rw [esK_get hlt191 he191]
          show halfE _ (halfE _ _ v191_0 v191_1) v191_1 v191_0 = _
          have hhw239 : w239 = (i161 : Int) + 1 := by rw [hw239]; exact wrap_i64 (by omega) (by omega)
          have hhw303 : w303 = (i161 : Int) + 1 := by rw [hw303]; exact wrap_i64 (by omega) (by omega)
          have hu1 : ∀ x, updF (rowE (esK ks) (i161 : Int) (roundsF (esK ks) a i161) i175) v191_1 x v191_1 = x := fun _ => if_pos rfl
          have hu2 : ∀ x, updF (rowE (esK ks) (i161 : Int) (roundsF (esK ks) a i161) i175) v191_1 x v191_0 = (rowE (esK ks) (i161 : Int) (roundsF (esK ks) a i161) i175) v191_0 := fun _ => if_neg (by omega)
          try simp only [hu1, hu2] at hv274
          try simp only [hu1, hu2] at hv296
          have qf237 := of_decide_eq_true (hw217.symm.trans f237)
          have qf301 := of_decide_eq_true (hw281.symm.trans f301)
          first | (exfalso; omega) | ((first | rw [half_n1 (u := v191_0) (v := v191_1) (by first | omega | (simp only [hu1, hu2]; omega))] | rw [half_n2 (u := v191_0) (v := v191_1) (by first | omega | (simp only [hu1, hu2]; omega))] | rw [half_pos (u := v191_0) (v := v191_1) (by first | omega | (simp only [hu1, hu2]; omega)) (by first | omega | (simp only [hu1, hu2]; omega))]); (first | rw [half_n1 (u := v191_1) (v := v191_0) (by first | omega | (simp only [hu1, hu2]; omega))] | rw [half_n2 (u := v191_1) (v := v191_0) (by first | omega | (simp only [hu1, hu2]; omega))] | rw [half_pos (u := v191_1) (v := v191_0) (by first | omega | (simp only [hu1, hu2]; omega)) (by first | omega | (simp only [hu1, hu2]; omega))]); rw [hhw239, hhw303])
         exact res_norm (by kernel_rfl) ⟨z175 - 1, hz9, i175 + 1, hy9, b324, b325, b326, b327, b328, hi9, g330, r331, (by rw [hn9]; exact s332)⟩
        ·
         intro vs ls H333 E333 st hE
         have f334 : ¬ (v296_0 < 0) := df st 0
         have f335 : w281 = true := bf st 1
         obtain ⟨w336, hw336⟩ : ∃ z, z = (IntKind.wrap .i64 ((i175 : Int) + 1)) := ⟨_, rfl⟩
         have b337 : E333 12 = .int .i64 w336 := by rw [hw336]; exact eo st hE 12 _
         have b338 := eo st hE 3 (.ptr p3 0)
         have b339 := eo st hE 9 S38
         have b340 := eo st hE 11 (.int .i64 (i161 : Int))
         have b341 := eo st hE 8 (.int .i64 (ms.length : Int))
         have b342 := eo st hE 2 (.int .i64 (b : Int))
         have g343 : Grew H277 H333 := (gk st)
         have g344 : Grew H H333 := Grew.trans g291 g343
         have r345 := g343.at r292
         have s348 := s295.grew g343
         clear st hE vs ls
         have hz9 : z175 - 1 < z175 := by omega
         have hy9 : z175 - 1 + (i175 + 1) = ks.length := by omega
         have hi9 : E333 12 = .int .i64 ((i175 + 1 : Nat) : Int) := by rw [b337, hw336, wrap64 (by omega)]
         have hn9 : vecI (rowE (esK ks) (i161 : Int) (roundsF (esK ks) a i161) (i175 + 1)) ms.length = vecI (updF (rowE (esK ks) (i161 : Int) (roundsF (esK ks) a i161) i175) v191_1 w239) ms.length := by
          refine congrArg (fun f => vecI f ms.length) ?_
          show stepE _ _ ((esK ks).getD i175 (0, 0)) = _
          rw [esK_get hlt191 he191]
          show halfE _ (halfE _ _ v191_0 v191_1) v191_1 v191_0 = _
          have hhw239 : w239 = (i161 : Int) + 1 := by rw [hw239]; exact wrap_i64 (by omega) (by omega)
          have hu1 : ∀ x, updF (rowE (esK ks) (i161 : Int) (roundsF (esK ks) a i161) i175) v191_1 x v191_1 = x := fun _ => if_pos rfl
          have hu2 : ∀ x, updF (rowE (esK ks) (i161 : Int) (roundsF (esK ks) a i161) i175) v191_1 x v191_0 = (rowE (esK ks) (i161 : Int) (roundsF (esK ks) a i161) i175) v191_0 := fun _ => if_neg (by omega)
          try simp only [hu1, hu2] at hv274
          try simp only [hu1, hu2] at hv296
          have qf237 := of_decide_eq_true (hw217.symm.trans f237)
          have qf335 := of_decide_eq_true (hw281.symm.trans f335)
          first | (exfalso; omega) | ((first | rw [half_n1 (u := v191_0) (v := v191_1) (by first | omega | (simp only [hu1, hu2]; omega))] | rw [half_n2 (u := v191_0) (v := v191_1) (by first | omega | (simp only [hu1, hu2]; omega))] | rw [half_pos (u := v191_0) (v := v191_1) (by first | omega | (simp only [hu1, hu2]; omega)) (by first | omega | (simp only [hu1, hu2]; omega))]); (first | rw [half_n1 (u := v191_1) (v := v191_0) (by first | omega | (simp only [hu1, hu2]; omega))] | rw [half_n2 (u := v191_1) (v := v191_0) (by first | omega | (simp only [hu1, hu2]; omega))] | rw [half_pos (u := v191_1) (v := v191_0) (by first | omega | (simp only [hu1, hu2]; omega)) (by first | omega | (simp only [hu1, hu2]; omega))]); rw [hhw239])
         exact res_norm (by kernel_rfl) ⟨z175 - 1, hz9, i175 + 1, hy9, b338, b339, b340, b341, b342, hi9, g344, r345, (by rw [hn9]; exact s348)⟩
        ·
         intro vs ls H349 E349 st hE
         have f350 : w281 = false := bf st 0
         obtain ⟨w351, hw351⟩ : ∃ z, z = (IntKind.wrap .i64 ((i175 : Int) + 1)) := ⟨_, rfl⟩
         have b352 : E349 12 = .int .i64 w351 := by rw [hw351]; exact eo st hE 12 _
         have b353 := eo st hE 3 (.ptr p3 0)
         have b354 := eo st hE 9 S38
         have b355 := eo st hE 11 (.int .i64 (i161 : Int))
         have b356 := eo st hE 8 (.int .i64 (ms.length : Int))
         have b357 := eo st hE 2 (.int .i64 (b : Int))
         have g358 : Grew H277 H349 := (gk st)
         have g359 : Grew H H349 := Grew.trans g291 g358
         have r360 := g358.at r292
         have s363 := s295.grew g358
         clear st hE vs ls
         have hz9 : z175 - 1 < z175 := by omega
         have hy9 : z175 - 1 + (i175 + 1) = ks.length := by omega
         have hi9 : E349 12 = .int .i64 ((i175 + 1 : Nat) : Int) := by rw [b352, hw351, wrap64 (by omega)]
         have hn9 : vecI (rowE (esK ks) (i161 : Int) (roundsF (esK ks) a i161) (i175 + 1)) ms.length = vecI (updF (rowE (esK ks) (i161 : Int) (roundsF (esK ks) a i161) i175) v191_1 w239) ms.length := by
          refine congrArg (fun f => vecI f ms.length) ?_
          show stepE _ _ ((esK ks).getD i175 (0, 0)) = _
          rw [esK_get hlt191 he191]
          show halfE _ (halfE _ _ v191_0 v191_1) v191_1 v191_0 = _
          have hhw239 : w239 = (i161 : Int) + 1 := by rw [hw239]; exact wrap_i64 (by omega) (by omega)
          have hu1 : ∀ x, updF (rowE (esK ks) (i161 : Int) (roundsF (esK ks) a i161) i175) v191_1 x v191_1 = x := fun _ => if_pos rfl
          have hu2 : ∀ x, updF (rowE (esK ks) (i161 : Int) (roundsF (esK ks) a i161) i175) v191_1 x v191_0 = (rowE (esK ks) (i161 : Int) (roundsF (esK ks) a i161) i175) v191_0 := fun _ => if_neg (by omega)
          try simp only [hu1, hu2] at hv274
          try simp only [hu1, hu2] at hv296
          have qf237 := of_decide_eq_true (hw217.symm.trans f237)
          have qf350 := of_decide_eq_false (hw281.symm.trans f350)
          first | (exfalso; omega) | ((first | rw [half_n1 (u := v191_0) (v := v191_1) (by first | omega | (simp only [hu1, hu2]; omega))] | rw [half_n2 (u := v191_0) (v := v191_1) (by first | omega | (simp only [hu1, hu2]; omega))] | rw [half_pos (u := v191_0) (v := v191_1) (by first | omega | (simp only [hu1, hu2]; omega)) (by first | omega | (simp only [hu1, hu2]; omega))]); (first | rw [half_n1 (u := v191_1) (v := v191_0) (by first | omega | (simp only [hu1, hu2]; omega))] | rw [half_n2 (u := v191_1) (v := v191_0) (by first | omega | (simp only [hu1, hu2]; omega))] | rw [half_pos (u := v191_1) (v := v191_0) (by first | omega | (simp only [hu1, hu2]; omega)) (by first | omega | (simp only [hu1, hu2]; omega))]); rw [hhw239])
         exact res_norm (by kernel_rfl) ⟨z175 - 1, hz9, i175 + 1, hy9, b353, b354, b355, b356, b357, hi9, g359, r360, (by rw [hn9]; exact s363)⟩
       ·
        intro vs ls H364 E364 st hE
        have f365 : ¬ (v274_0 = (i161 : Int)) := df st 0
        obtain ⟨w366, hw366⟩ : ∃ z, z = (IntKind.wrap .i64 ((i175 : Int) + 1)) := ⟨_, rfl⟩
        have b367 : E364 12 = .int .i64 w366 := by rw [hw366]; exact eo st hE 12 _
        have b368 := eo st hE 3 (.ptr p3 0)
        have b369 := eo st hE 9 S38
        have b370 := eo st hE 11 (.int .i64 (i161 : Int))
        have b371 := eo st hE 8 (.int .i64 (ms.length : Int))
        have b372 := eo st hE 2 (.int .i64 (b : Int))
        have g373 : Grew H259 H364 := (gk st)
        have g374 : Grew H H364 := Grew.trans g270 g373
        have r375 := g373.at r271
        have s378 := s273.grew g373
        clear st hE vs ls
        have hz9 : z175 - 1 < z175 := by omega
        have hy9 : z175 - 1 + (i175 + 1) = ks.length := by omega
        have hi9 : E364 12 = .int .i64 ((i175 + 1 : Nat) : Int) := by rw [b367, hw366, wrap64 (by omega)]
        have hn9 : vecI (rowE (esK ks) (i161 : Int) (roundsF (esK ks) a i161) (i175 + 1)) ms.length = vecI (updF (rowE (esK ks) (i161 : Int) (roundsF (esK ks) a i161) i175) v191_1 w239) ms.length := by
         refine congrArg (fun f => vecI f ms.length) ?_
         show stepE _ _ ((esK ks).getD i175 (0, 0)) = _
         rw [esK_get hlt191 he191]
         show halfE _ (halfE _ _ v191_0 v191_1) v191_1 v191_0 = _
         have hhw239 : w239 = (i161 : Int) + 1 := by rw [hw239]; exact wrap_i64 (by omega) (by omega)
         have hu1 : ∀ x, updF (rowE (esK ks) (i161 : Int) (roundsF (esK ks) a i161) i175) v191_1 x v191_1 = x := fun _ => if_pos rfl
         have hu2 : ∀ x, updF (rowE (esK ks) (i161 : Int) (roundsF (esK ks) a i161) i175) v191_1 x v191_0 = (rowE (esK ks) (i161 : Int) (roundsF (esK ks) a i161) i175) v191_0 := fun _ => if_neg (by omega)
         try simp only [hu1, hu2] at hv274
         have qf237 := of_decide_eq_true (hw217.symm.trans f237)
         first | (exfalso; omega) | ((first | rw [half_n1 (u := v191_0) (v := v191_1) (by first | omega | (simp only [hu1, hu2]; omega))] | rw [half_n2 (u := v191_0) (v := v191_1) (by first | omega | (simp only [hu1, hu2]; omega))] | rw [half_pos (u := v191_0) (v := v191_1) (by first | omega | (simp only [hu1, hu2]; omega)) (by first | omega | (simp only [hu1, hu2]; omega))]); (first | rw [half_n1 (u := v191_1) (v := v191_0) (by first | omega | (simp only [hu1, hu2]; omega))] | rw [half_n2 (u := v191_1) (v := v191_0) (by first | omega | (simp only [hu1, hu2]; omega))] | rw [half_pos (u := v191_1) (v := v191_0) (by first | omega | (simp only [hu1, hu2]; omega)) (by first | omega | (simp only [hu1, hu2]; omega))]); rw [hhw239])
        exact res_norm (by kernel_rfl) ⟨z175 - 1, hz9, i175 + 1, hy9, b368, b369, b370, b371, b372, hi9, g374, r375, (by rw [hn9]; exact s378)⟩
      ·
       intro vs ls H379 E379 st hE
       have f380 : v232_0 = (i161 : Int) := dt st 0
       have f381 : ¬ (v232_0 < 0) := df st 1
       have f382 : w217 = true := bf st 2
       have b383 := eo st hE 97 S38
       have b384 := eo st hE 101 (.int .i64 (v191_0 : Int))
       obtain ⟨w385, hw385⟩ : ∃ z, z = (decide (v232_0 = (i161 : Int))) := ⟨_, rfl⟩
       have b386 : E379 96 = .bool w385 := by rw [hw385]; exact eo st hE 96 _
       have b387 := eo st hE 9 S38
       have b388 := eo st hE 13 (.ptr lS191 ((i175 * 6) + 0))
       have b389 := eo st hE 11 (.int .i64 (i161 : Int))
       have b390 := eo st hE 12 (.int .i64 (i175 : Int))
       have b391 := eo st hE 8 (.int .i64 (ms.length : Int))
       have b392 := eo st hE 3 (.ptr p3 0)
       have b393 := eo st hE 2 (.int .i64 (b : Int))
       have g394 : Grew H213 H379 := (gk st)
       have g395 : Grew H H379 := Grew.trans g227 g394
       have r396 := g394.at r228
       have r397 := g394.at r229
       have s399 := s231.grew g394
       clear st hE vs ls
       have hlt400 : v191_0 < (vecI (rowE (esK ks) (i161 : Int) (roundsF (esK ks) a i161) i175) ms.length).length := by rw [vecI_len]; omega
       obtain ⟨lS400, cap400, rest400, wr400, eS400, gS400⟩ := (s399.toL).isSl hlt400
       have ne401 : Apart p3 lS400 := ⟨fun e => (show ApartL (S38) p3 by assumption).ne ⟨0, _, _, _, by rw [e]; exact eS400⟩⟩
       obtain ⟨v400_0, hm400, hv400⟩ := vec_parts' (rowE (esK ks) (i161 : Int) (roundsF (esK ks) a i161) i175) ms.length v191_0 hlt400
       have he400 : (vecI (rowE (esK ks) (i161 : Int) (roundsF (esK ks) a i161) i175) ms.length).getD v191_0 [] = [.int .i64 v400_0] := by rw [← hm400, List.getD_eq_getElem?_getD, List.getElem?_eq_getElem hlt400]; rfl
       have hq400 := he210.symm.trans he400
       simp only [List.cons.injEq, AV.flt.injEq, AV.int.injEq, Int.natCast_inj, true_and, and_true] at hq400
       obtain ⟨rfl⟩ := hq400
       have q402 := q234.app (.cons ⟨_, rfl⟩ (.cons ⟨_, rfl⟩ .nil) : KdsL [.bool, KI] [.bool w385, .int .i64 v210_0])
       refine run_mc (φ := φ0) (pm := pmR 3 [(.ia 1 (n1 6) (nI 13), .ptr 2 0)] 0) 20 (ws := [⟨p3, 0, [n1 0, n1 1], false⟩, ⟨lS191, (i175 * 6), [nI 13, nI 14, nF 15, nF 16, nF 17, nF 18], false⟩, ⟨lS400, (v191_0 * 1), [nI 23], false⟩]) (env := [(97, n1 6), (101, nI 13), (96, nB 22), (9, n1 6), (13, .ptr 1 0), (11, nI 10), (12, nI 11), (8, nI 5), (3, .ptr 0 0), (2, nI 3)]) q402 (.cons (wR r396 q402) (.cons (win_elem hrk r397 hlt191 rfl (by rw [hm191]; exact (dL q402))) (.cons (win_elem (vecI_recs (rowE (esK ks) (i161 : Int) (roundsF (esK ks) a i161) i175) ms.length) gS400 hlt400 rfl (by rw [hm400]; exact (dL q402))) .nil))) (sepOk_ro rfl) (.cons (rule_iaS (k := v191_0) (dE q402) eS400 (dE q402) hlt400 rfl) .nil) (eC q402 (.cons b383 (.cons b384 (.cons b386 (.cons b387 (.cons b388 (.cons b389 (.cons b390 (.cons b391 (.cons b392 (.cons b393 .nil))))))))))) tb_ok ap_ok ?_
       refine all3 (by kernel_rfl) ?_ ?_ ?_
       ·
        intro vs ls H403 E403 st hE
        have f404 : v210_0 < 0 := dt st 0
        have f405 : w385 = true := bf st 1
        have b406 := eo st hE 113 (.ptr lS400 ((v191_0 * 1) + 0))
        obtain ⟨w407, hw407⟩ : ∃ z, z = (IntKind.wrap .i64 ((i161 : Int) + 1)) := ⟨_, rfl⟩
        have b408 : E403 112 = .int .i64 w407 := by rw [hw407]; exact eo st hE 112 _
        have b409 := eo st hE 12 (.int .i64 (i175 : Int))
        have b410 := eo st hE 11 (.int .i64 (i161 : Int))
        have b411 := eo st hE 8 (.int .i64 (ms.length : Int))
        have b412 := eo st hE 3 (.ptr p3 0)
        have b413 := eo st hE 9 S38
        have b414 := eo st hE 2 (.int .i64 (b : Int))
        have g415 : Grew H379 H403 := (gk st)
        have g416 : Grew H H403 := Grew.trans g395 g415
        have r417 := g415.at r396
        have s420 := s399.grew g415
        clear st hE vs ls
        refine res_storeS (d := none) (n := 1) (x := .tmp 113) (y := .tmp 112) (by kernel_rfl) (S := S38) (ms := (vecI (rowE (esK ks) (i161 : Int) (roundsF (esK ks) a i161) i175) ms.length)) (k := v191_0) (m' := [.int .i64 w407]) (s420) eS400 b406 hlt400 (vecI_recs (rowE (esK ks) (i161 : Int) (roundsF (esK ks) a i161) i175) ms.length).len (by show AV.cells (E403 112) = _; rw [b408]; rfl) rfl rfl rfl ?_
        intro H421 s421 oo421
        have hln421 : ((vecI (rowE (esK ks) (i161 : Int) (roundsF (esK ks) a i161) i175) ms.length).set v191_0 [.int .i64 w407]).length = (vecI (rowE (esK ks) (i161 : Int) (roundsF (esK ks) a i161) i175) ms.length).length := by simp
        have g422 : Grew H H421 := OnlyS.own g416 fr42 oo421
        have r423 := oo421.at r417 (by assumption)
        rw [vecI_set] at s421
        have q424 := q402.app (.cons ⟨_, rfl⟩ .nil : KdsL [KI] [.int .i64 w407])
        refine run_mc (φ := φ0) (pm := pmR 1 [] 0) 20 (ws := [⟨p3, 0, [n1 0, n1 1], false⟩]) (env := [(112, nI 24), (12, nI 11), (11, nI 10), (8, nI 5), (3, .ptr 0 0), (9, n1 6), (2, nI 3)]) q424 (.cons (wR r423 q424) .nil) (sepOk_ro rfl) .nil (eC q424 (.cons (put_no b408) (.cons (put_no b409) (.cons (put_no b410) (.cons (put_no b411) (.cons (put_no b412) (.cons (put_no b413) (.cons (put_no b414) .nil)))))))) tb_ok ap_ok ?_
        refine all1 (by kernel_rfl) ?_
        intro vs ls H425 E425 st hE
        obtain ⟨w426, hw426⟩ : ∃ z, z = (IntKind.wrap .i64 ((i175 : Int) + 1)) := ⟨_, rfl⟩
        have b427 : E425 12 = .int .i64 w426 := by rw [hw426]; exact eo st hE 12 _
        have b428 := eo st hE 3 (.ptr p3 0)
        have b429 := eo st hE 9 S38
        have b430 := eo st hE 11 (.int .i64 (i161 : Int))
        have b431 := eo st hE 8 (.int .i64 (ms.length : Int))
        have b432 := eo st hE 2 (.int .i64 (b : Int))
        have g433 : Grew H421 H425 := (gk st)
        have g434 : Grew H H425 := Grew.trans g422 g433
        have r435 := g433.at r423
        have s436 := s421.grew g433
        clear st hE vs ls
        have hz9 : z175 - 1 < z175 := by omega
        have hy9 : z175 - 1 + (i175 + 1) = ks.length := by omega
        have hi9 : E425 12 = .int .i64 ((i175 + 1 : Nat) : Int) := by rw [b427, hw426, wrap64 (by omega)]
        have hn9 : vecI (rowE (esK ks) (i161 : Int) (roundsF (esK ks) a i161) (i175 + 1)) ms.length = vecI (updF (rowE (esK ks) (i161 : Int) (roundsF (esK ks) a i161) i175) v191_0 w407) ms.length := by
         refine congrArg (fun f => vecI f ms.length) ?_
         show stepE _ _ ((esK ks).getD i175 (0, 0)) = _
         rw [esK_get hlt191 he191]
         show halfE _ (halfE _ _ v191_0 v191_1) v191_1 v191_0 = _
         have hhw407 : w407 = (i161 : Int) + 1 := by rw [hw407]; exact wrap_i64 (by omega) (by omega)
         have hu1 : ∀ x, updF (rowE (esK ks) (i161 : Int) (roundsF (esK ks) a i161) i175) v191_1 x v191_1 = x := fun _ => if_pos rfl
         have hu2 : ∀ x, updF (rowE (esK ks) (i161 : Int) (roundsF (esK ks) a i161) i175) v191_1 x v191_0 = (rowE (esK ks) (i161 : Int) (roundsF (esK ks) a i161) i175) v191_0 := fun _ => if_neg (by omega)
         have qf382 := of_decide_eq_true (hw217.symm.trans f382)
         have qf405 := of_decide_eq_true (hw385.symm.trans f405)
         first | (exfalso; omega) | ((first | rw [half_n1 (u := v191_0) (v := v191_1) (by first | omega | (simp only [hu1, hu2]; omega))] | rw [half_n2 (u := v191_0) (v := v191_1) (by first | omega | (simp only [hu1, hu2]; omega))] | rw [half_pos (u := v191_0) (v := v191_1) (by first | omega | (simp only [hu1, hu2]; omega)) (by first | omega | (simp only [hu1, hu2]; omega))]); (first | rw [half_n1 (u := v191_1) (v := v191_0) (by first | omega | (simp only [hu1, hu2]; omega))] | rw [half_n2 (u := v191_1) (v := v191_0) (by first | omega | (simp only [hu1, hu2]; omega))] | rw [half_pos (u := v191_1) (v := v191_0) (by first | omega | (simp only [hu1, hu2]; omega)) (by first | omega | (simp only [hu1, hu2]; omega))]); rw [hhw407])
        exact res_norm (by kernel_rfl) ⟨z175 - 1, hz9, i175 + 1, hy9, b428, b429, b430, b431, b432, hi9, g434, r435, (by rw [hn9]; exact s436)⟩
       ·
        intro vs ls H437 E437 st hE
        have f438 : ¬ (v210_0 < 0) := df st 0
        have f439 : w385 = true := bf st 1
        obtain ⟨w440, hw440⟩ : ∃ z, z = (IntKind.wrap .i64 ((i175 : Int) + 1)) := ⟨_, rfl⟩
        have b441 : E437 12 = .int .i64 w440 := by rw [hw440]; exact eo st hE 12 _
        have b442 := eo st hE 3 (.ptr p3 0)
        have b443 := eo st hE 9 S38
        have b444 := eo st hE 11 (.int .i64 (i161 : Int))
        have b445 := eo st hE 8 (.int .i64 (ms.length : Int))
        have b446 := eo st hE 2 (.int .i64 (b : Int))
        have g447 : Grew H379 H437 := (gk st)
        have g448 : Grew H H437 := Grew.trans g395 g447
        have r449 := g447.at r396
        have s452 := s399.grew g447
        clear st hE vs ls
        have hz9 : z175 - 1 < z175 := by omega
        have hy9 : z175 - 1 + (i175 + 1) = ks.length := by omega
        have hi9 : E437 12 = .int .i64 ((i175 + 1 : Nat) : Int) := by rw [b441, hw440, wrap64 (by omega)]
        have hn9 : vecI (rowE (esK ks) (i161 : Int) (roundsF (esK ks) a i161) (i175 + 1)) ms.length = vecI (rowE (esK ks) (i161 : Int) (roundsF (esK ks) a i161) i175) ms.length := by
         refine congrArg (fun f => vecI f ms.length) ?_
         show stepE _ _ ((esK ks).getD i175 (0, 0)) = _
         rw [esK_get hlt191 he191]
         show halfE _ (halfE _ _ v191_0 v191_1) v191_1 v191_0 = _
         have hu1 : ∀ x, updF (rowE (esK ks) (i161 : Int) (roundsF (esK ks) a i161) i175) v191_1 x v191_1 = x := fun _ => if_pos rfl
         have hu2 : ∀ x, updF (rowE (esK ks) (i161 : Int) (roundsF (esK ks) a i161) i175) v191_1 x v191_0 = (rowE (esK ks) (i161 : Int) (roundsF (esK ks) a i161) i175) v191_0 := fun _ => if_neg (by omega)
         have qf382 := of_decide_eq_true (hw217.symm.trans f382)
         have qf439 := of_decide_eq_true (hw385.symm.trans f439)
         first | (exfalso; omega) | ((first | rw [half_n1 (u := v191_0) (v := v191_1) (by first | omega | (simp only [hu1, hu2]; omega))] | rw [half_n2 (u := v191_0) (v := v191_1) (by first | omega | (simp only [hu1, hu2]; omega))] | rw [half_pos (u := v191_0) (v := v191_1) (by first | omega | (simp only [hu1, hu2]; omega)) (by first | omega | (simp only [hu1, hu2]; omega))]); (first | rw [half_n1 (u := v191_1) (v := v191_0) (by first | omega | (simp only [hu1, hu2]; omega))] | rw [half_n2 (u := v191_1) (v := v191_0) (by first | omega | (simp only [hu1, hu2]; omega))] | rw [half_pos (u := v191_1) (v := v191_0) (by first | omega | (simp only [hu1, hu2]; omega)) (by first | omega | (simp only [hu1, hu2]; omega))]))
        exact res_norm (by kernel_rfl) ⟨z175 - 1, hz9, i175 + 1, hy9, b442, b443, b444, b445, b446, hi9, g448, r449, (by rw [hn9]; exact s452)⟩
       ·
        intro vs ls H453 E453 st hE
        have f454 : w385 = false := bf st 0
        obtain ⟨w455, hw455⟩ : ∃ z, z = (IntKind.wrap .i64 ((i175 : Int) + 1)) := ⟨_, rfl⟩
        have b456 : E453 12 = .int .i64 w455 := by rw [hw455]; exact eo st hE 12 _
        have b457 := eo st hE 3 (.ptr p3 0)
        have b458 := eo st hE 9 S38
        have b459 := eo st hE 11 (.int .i64 (i161 : Int))
        have b460 := eo st hE 8 (.int .i64 (ms.length : Int))
        have b461 := eo st hE 2 (.int .i64 (b : Int))
        have g462 : Grew H379 H453 := (gk st)
        have g463 : Grew H H453 := Grew.trans g395 g462
        have r464 := g462.at r396
        have s467 := s399.grew g462
        clear st hE vs ls
        have hz9 : z175 - 1 < z175 := by omega
        have hy9 : z175 - 1 + (i175 + 1) = ks.length := by omega
        have hi9 : E453 12 = .int .i64 ((i175 + 1 : Nat) : Int) := by rw [b456, hw455, wrap64 (by omega)]
        have hn9 : vecI (rowE (esK ks) (i161 : Int) (roundsF (esK ks) a i161) (i175 + 1)) ms.length = vecI (rowE (esK ks) (i161 : Int) (roundsF (esK ks) a i161) i175) ms.length := by
         refine congrArg (fun f => vecI f ms.length) ?_
         show stepE _ _ ((esK ks).getD i175 (0, 0)) = _
         rw [esK_get hlt191 he191]
         show halfE _ (halfE _ _ v191_0 v191_1) v191_1 v191_0 = _
         have hu1 : ∀ x, updF (rowE (esK ks) (i161 : Int) (roundsF (esK ks) a i161) i175) v191_1 x v191_1 = x := fun _ => if_pos rfl
         have hu2 : ∀ x, updF (rowE (esK ks) (i161 : Int) (roundsF (esK ks) a i161) i175) v191_1 x v191_0 = (rowE (esK ks) (i161 : Int) (roundsF (esK ks) a i161) i175) v191_0 := fun _ => if_neg (by omega)
         have qf382 := of_decide_eq_true (hw217.symm.trans f382)
         have qf454 := of_decide_eq_false (hw385.symm.trans f454)
         first | (exfalso; omega) | ((first | rw [half_n1 (u := v191_0) (v := v191_1) (by first | omega | (simp only [hu1, hu2]; omega))] | rw [half_n2 (u := v191_0) (v := v191_1) (by first | omega | (simp only [hu1, hu2]; omega))] | rw [half_pos (u := v191_0) (v := v191_1) (by first | omega | (simp only [hu1, hu2]; omega)) (by first | omega | (simp only [hu1, hu2]; omega))]); (first | rw [half_n1 (u := v191_1) (v := v191_0) (by first | omega | (simp only [hu1, hu2]; omega))] | rw [half_n2 (u := v191_1) (v := v191_0) (by first | omega | (simp only [hu1, hu2]; omega))] | rw [half_pos (u := v191_1) (v := v191_0) (by first | omega | (simp only [hu1, hu2]; omega)) (by first | omega | (simp only [hu1, hu2]; omega))]))
        exact res_norm (by kernel_rfl) ⟨z175 - 1, hz9, i175 + 1, hy9, b457, b458, b459, b460, b461, hi9, g463, r464, (by rw [hn9]; exact s467)⟩
      ·
       intro vs ls H468 E468 st hE
       have f469 : ¬ (v232_0 = (i161 : Int)) := df st 0
       have f470 : ¬ (v232_0 < 0) := df st 1
       have f471 : w217 = true := bf st 2
       obtain ⟨w472, hw472⟩ : ∃ z, z = (IntKind.wrap .i64 ((i175 : Int) + 1)) := ⟨_, rfl⟩
       have b473 : E468 12 = .int .i64 w472 := by rw [hw472]; exact eo st hE 12 _
       have b474 := eo st hE 3 (.ptr p3 0)
       have b475 := eo st hE 9 S38
       have b476 := eo st hE 11 (.int .i64 (i161 : Int))
       have b477 := eo st hE 8 (.int .i64 (ms.length : Int))
       have b478 := eo st hE 2 (.int .i64 (b : Int))
       have g479 : Grew H213 H468 := (gk st)
       have g480 : Grew H H468 := Grew.trans g227 g479
       have r481 := g479.at r228
       have s484 := s231.grew g479
       clear st hE vs ls
       have hz9 : z175 - 1 < z175 := by omega
       have hy9 : z175 - 1 + (i175 + 1) = ks.length := by omega
       have hi9 : E468 12 = .int .i64 ((i175 + 1 : Nat) : Int) := by rw [b473, hw472, wrap64 (by omega)]
       have hn9 : vecI (rowE (esK ks) (i161 : Int) (roundsF (esK ks) a i161) (i175 + 1)) ms.length = vecI (rowE (esK ks) (i161 : Int) (roundsF (esK ks) a i161) i175) ms.length := by
        refine congrArg (fun f => vecI f ms.length) ?_
        show stepE _ _ ((esK ks).getD i175 (0, 0)) = _
        rw [esK_get hlt191 he191]
        show halfE _ (halfE _ _ v191_0 v191_1) v191_1 v191_0 = _
        have hu1 : ∀ x, updF (rowE (esK ks) (i161 : Int) (roundsF (esK ks) a i161) i175) v191_1 x v191_1 = x := fun _ => if_pos rfl
        have hu2 : ∀ x, updF (rowE (esK ks) (i161 : Int) (roundsF (esK ks) a i161) i175) v191_1 x v191_0 = (rowE (esK ks) (i161 : Int) (roundsF (esK ks) a i161) i175) v191_0 := fun _ => if_neg (by omega)
        have qf471 := of_decide_eq_true (hw217.symm.trans f471)
        first | (exfalso; omega) | ((first | rw [half_n1 (u := v191_0) (v := v191_1) (by first | omega | (simp only [hu1, hu2]; omega))] | rw [half_n2 (u := v191_0) (v := v191_1) (by first | omega | (simp only [hu1, hu2]; omega))] | rw [half_pos (u := v191_0) (v := v191_1) (by first | omega | (simp only [hu1, hu2]; omega)) (by first | omega | (simp only [hu1, hu2]; omega))]); (first | rw [half_n1 (u := v191_1) (v := v191_0) (by first | omega | (simp only [hu1, hu2]; omega))] | rw [half_n2 (u := v191_1) (v := v191_0) (by first | omega | (simp only [hu1, hu2]; omega))] | rw [half_pos (u := v191_1) (v := v191_0) (by first | omega | (simp only [hu1, hu2]; omega)) (by first | omega | (simp only [hu1, hu2]; omega))]))
       exact res_norm (by kernel_rfl) ⟨z175 - 1, hz9, i175 + 1, hy9, b474, b475, b476, b477, b478, hi9, g480, r481, (by rw [hn9]; exact s484)⟩
      ·
       intro vs ls H485 E485 st hE
       have f486 : v232_0 = (i161 : Int) := dt st 0
       have f487 : w217 = false := bf st 1
       have b488 := eo st hE 97 S38
       have b489 := eo st hE 101 (.int .i64 (v191_0 : Int))
       obtain ⟨w490, hw490⟩ : ∃ z, z = (decide (v232_0 = (i161 : Int))) := ⟨_, rfl⟩
       have b491 : E485 96 = .bool w490 := by rw [hw490]; exact eo st hE 96 _
       have b492 := eo st hE 9 S38
       have b493 := eo st hE 13 (.ptr lS191 ((i175 * 6) + 0))
       have b494 := eo st hE 11 (.int .i64 (i161 : Int))
       have b495 := eo st hE 12 (.int .i64 (i175 : Int))
       have b496 := eo st hE 8 (.int .i64 (ms.length : Int))
       have b497 := eo st hE 3 (.ptr p3 0)
       have b498 := eo st hE 2 (.int .i64 (b : Int))
       have g499 : Grew H213 H485 := (gk st)
       have g500 : Grew H H485 := Grew.trans g227 g499
       have r501 := g499.at r228
       have r502 := g499.at r229
       have s504 := s231.grew g499
       clear st hE vs ls
       have hlt505 : v191_0 < (vecI (rowE (esK ks) (i161 : Int) (roundsF (esK ks) a i161) i175) ms.length).length := by rw [vecI_len]; omega
       obtain ⟨lS505, cap505, rest505, wr505, eS505, gS505⟩ := (s504.toL).isSl hlt505
       have ne506 : Apart p3 lS505 := ⟨fun e => (show ApartL (S38) p3 by assumption).ne ⟨0, _, _, _, by rw [e]; exact eS505⟩⟩
       obtain ⟨v505_0, hm505, hv505⟩ := vec_parts' (rowE (esK ks) (i161 : Int) (roundsF (esK ks) a i161) i175) ms.length v191_0 hlt505
       have he505 : (vecI (rowE (esK ks) (i161 : Int) (roundsF (esK ks) a i161) i175) ms.length).getD v191_0 [] = [.int .i64 v505_0] := by rw [← hm505, List.getD_eq_getElem?_getD, List.getElem?_eq_getElem hlt505]; rfl
       have hq505 := he210.symm.trans he505
       simp only [List.cons.injEq, AV.flt.injEq, AV.int.injEq, Int.natCast_inj, true_and, and_true] at hq505
       obtain ⟨rfl⟩ := hq505
       have q507 := q234.app (.cons ⟨_, rfl⟩ (.cons ⟨_, rfl⟩ .nil) : KdsL [.bool, KI] [.bool w490, .int .i64 v210_0])
       refine run_mc (φ := φ0) (pm := pmR 3 [(.ia 1 (n1 6) (nI 13), .ptr 2 0)] 0) 20 (ws := [⟨p3, 0, [n1 0, n1 1], false⟩, ⟨lS191, (i175 * 6), [nI 13, nI 14, nF 15, nF 16, nF 17, nF 18], false⟩, ⟨lS505, (v191_0 * 1), [nI 23], false⟩]) (env := [(97, n1 6), (101, nI 13), (96, nB 22), (9, n1 6), (13, .ptr 1 0), (11, nI 10), (12, nI 11), (8, nI 5), (3, .ptr 0 0), (2, nI 3)]) q507 (.cons (wR r501 q507) (.cons (win_elem hrk r502 hlt191 rfl (by rw [hm191]; exact (dL q507))) (.cons (win_elem (vecI_recs (rowE (esK ks) (i161 : Int) (roundsF (esK ks) a i161) i175) ms.length) gS505 hlt505 rfl (by rw [hm505]; exact (dL q507))) .nil))) (sepOk_ro rfl) (.cons (rule_iaS (k := v191_0) (dE q507) eS505 (dE q507) hlt505 rfl) .nil) (eC q507 (.cons b488 (.cons b489 (.cons b491 (.cons b492 (.cons b493 (.cons b494 (.cons b495 (.cons b496 (.cons b497 (.cons b498 .nil))))))))))) tb_ok ap_ok ?_
       refine all3 (by kernel_rfl) ?_ ?_ ?_
       ·
        intro vs ls H508 E508 st hE
        have f509 : v210_0 < 0 := dt st 0
        have f510 : w490 = true := bf st 1
        have b511 := eo st hE 113 (.ptr lS505 ((v191_0 * 1) + 0))
        obtain ⟨w512, hw512⟩ : ∃ z, z = (IntKind.wrap .i64 ((i161 : Int) + 1)) := ⟨_, rfl⟩
        have b513 : E508 112 = .int .i64 w512 := by rw [hw512]; exact eo st hE 112 _
        have b514 := eo st hE 12 (.int .i64 (i175 : Int))
        have b515 := eo st hE 11 (.int .i64 (i161 : Int))
        have b516 := eo st hE 8 (.int .i64 (ms.length : Int))
        have b517 := eo st hE 3 (.ptr p3 0)
        have b518 := eo st hE 9 S38
        have b519 := eo st hE 2 (.int .i64 (b : Int))
        have g520 : Grew H485 H508 := (gk st)
        have g521 : Grew H H508 := Grew.trans g500 g520
        have r522 := g520.at r501
        have s525 := s504.grew g520
        clear st hE vs ls
        refine res_storeS (d := none) (n := 1) (x := .tmp 113) (y := .tmp 112) (by kernel_rfl) (S := S38) (ms := (vecI (rowE (esK ks) (i161 : Int) (roundsF (esK ks) a i161) i175) ms.length)) (k := v191_0) (m' := [.int .i64 w512]) (s525) eS505 b511 hlt505 (vecI_recs (rowE (esK ks) (i161 : Int) (roundsF (esK ks) a i161) i175) ms.length).len (by show AV.cells (E508 112) = _; rw [b513]; rfl) rfl rfl rfl ?_
        intro H526 s526 oo526
        have hln526 : ((vecI (rowE (esK ks) (i161 : Int) (roundsF (esK ks) a i161) i175) ms.length).set v191_0 [.int .i64 w512]).length = (vecI (rowE (esK ks) (i161 : Int) (roundsF (esK ks) a i161) i175) ms.length).length := by simp
        have g527 : Grew H H526 := OnlyS.own g521 fr42 oo526
        have r528 := oo526.at r522 (by assumption)
        rw [vecI_set] at s526
        have q529 := q507.app (.cons ⟨_, rfl⟩ .nil : KdsL [KI] [.int .i64 w512])
        refine run_mc (φ := φ0) (pm := pmR 1 [] 0) 20 (ws := [⟨p3, 0, [n1 0, n1 1], false⟩]) (env := [(112, nI 24), (12, nI 11), (11, nI 10), (8, nI 5), (3, .ptr 0 0), (9, n1 6), (2, nI 3)]) q529 (.cons (wR r528 q529) .nil) (sepOk_ro rfl) .nil (eC q529 (.cons (put_no b513) (.cons (put_no b514) (.cons (put_no b515) (.cons (put_no b516) (.cons (put_no b517) (.cons (put_no b518) (.cons (put_no b519) .nil)))))))) tb_ok ap_ok ?_
        refine all1 (by kernel_rfl) ?_
        intro vs ls H530 E530 st hE
        obtain ⟨w531, hw531⟩ : ∃ z, z = (IntKind.wrap .i64 ((i175 : Int) + 1)) := ⟨_, rfl⟩
        have b532 : E530 12 = .int .i64 w531 := by rw [hw531]; exact eo st hE 12 _
        have b533 := eo st hE 3 (.ptr p3 0)
        have b534 := eo st hE 9 S38
        have b535 := eo st hE 11 (.int .i64 (i161 : Int))
        have b536 := eo st hE 8 (.int .i64 (ms.length : Int))
        have b537 := eo st hE 2 (.int .i64 (b : Int))
        have g538 : Grew H526 H530 := (gk st)
        have g539 : Grew H H530 := Grew.trans g527 g538
        have r540 := g538.at r528
        have s541 := s526.grew g538
        clear st hE vs ls
        have hz9 : z175 - 1 < z175 := by omega
        have hy9 : z175 - 1 + (i175 + 1) = ks.length := by omega
        have hi9 : E530 12 = .int .i64 ((i175 + 1 : Nat) : Int) := by rw [b532, hw531, wrap64 (by omega)]
        have hn9 : vecI (rowE (esK ks) (i161 : Int) (roundsF (esK ks) a i161) (i175 + 1)) ms.length = vecI (updF (rowE (esK ks) (i161 : Int) (roundsF (esK ks) a i161) i175) v191_0 w512) ms.length := by
         refine congrArg (fun f => vecI f ms.length) ?_
         show stepE _ _ ((esK ks).getD i175 (0, 0)) = _
         rw [esK_get hlt191 he191]
         show halfE _ (halfE _ _ v191_0 v191_1) v191_1 v191_0 = _
         have hhw512 : w512 = (i161 : Int) + 1 := by rw [hw512]; exact wrap_i64 (by omega) (by omega)
         have hu1 : ∀ x, updF (rowE (esK ks) (i161 : Int) (roundsF (esK ks) a i161) i175) v191_1 x v191_1 = x := fun _ => if_pos rfl
         have hu2 : ∀ x, updF (rowE (esK ks) (i161 : Int) (roundsF (esK ks) a i161) i175) v191_1 x v191_0 = (rowE (esK ks) (i161 : Int) (roundsF (esK ks) a i161) i175) v191_0 := fun _ => if_neg (by omega)
         have qf487 := of_decide_eq_false (hw217.symm.trans f487)
         have qf510 := of_decide_eq_true (hw490.symm.trans f510)
         first | (exfalso; omega) | ((first | rw [half_n1 (u := v191_0) (v := v191_1) (by first | omega | (simp only [hu1, hu2]; omega))] | rw [half_n2 (u := v191_0) (v := v191_1) (by first | omega | (simp only [hu1, hu2]; omega))] | rw [half_pos (u := v191_0) (v := v191_1) (by first | omega | (simp only [hu1, hu2]; omega)) (by first | omega | (simp only [hu1, hu2]; omega))]); (first | rw [half_n1 (u := v191_1) (v := v191_0) (by first | omega | (simp only [hu1, hu2]; omega))] | rw [half_n2 (u := v191_1) (v := v191_0) (by first | omega | (simp only [hu1, hu2]; omega))] | rw [half_pos (u := v191_1) (v := v191_0) (by first | omega | (simp only [hu1, hu2]; omega)) (by first | omega | (simp only [hu1, hu2]; omega))]); rw [hhw512])
        exact res_norm (by kernel_rfl) ⟨z175 - 1, hz9, i175 + 1, hy9, b533, b534, b535, b536, b537, hi9, g539, r540, (by rw [hn9]; exact s541)⟩
       ·
        intro vs ls H542 E542 st hE
        have f543 : ¬ (v210_0 < 0) := df st 0
        have f544 : w490 = true := bf st 1
        obtain ⟨w545, hw545⟩ : ∃ z, z = (IntKind.wrap .i64 ((i175 : Int) + 1)) := ⟨_, rfl⟩
        have b546 : E542 12 = .int .i64 w545 := by rw [hw545]; exact eo st hE 12 _
        have b547 := eo st hE 3 (.ptr p3 0)
        have b548 := eo st hE 9 S38
        have b549 := eo st hE 11 (.int .i64 (i161 : Int))
        have b550 := eo st hE 8 (.int .i64 (ms.length : Int))
        have b551 := eo st hE 2 (.int .i64 (b : Int))
        have g552 : Grew H485 H542 := (gk st)
        have g553 : Grew H H542 := Grew.trans g500 g552
        have r554 := g552.at r501
        have s557 := s504.grew g552
        clear st hE vs ls
        have hz9 : z175 - 1 < z175 := by omega
        have hy9 : z175 - 1 + (i175 + 1) = ks.length := by omega
        have hi9 : E542 12 = .int .i64 ((i175 + 1 : Nat) : Int) := by rw [b546, hw545, wrap64 (by omega)]
        have hn9 : vecI (rowE (esK ks) (i161 : Int) (roundsF (esK ks) a i161) (i175 + 1)) ms.length = vecI (rowE (esK ks) (i161 : Int) (roundsF (esK ks) a i161) i175) ms.length := by
         refine congrArg (fun f => vecI f ms.length) ?_
         show stepE _ _ ((esK ks).getD i175 (0, 0)) = _
         rw [esK_get hlt191 he191]
         show halfE _ (halfE _ _ v191_0 v191_1) v191_1 v191_0 = _
         have hu1 : ∀ x, updF (rowE (esK ks) (i161 : Int) (roundsF (esK ks) a i161) i175) v191_1 x v191_1 = x := fun _ => if_pos rfl
         have hu2 : ∀ x, updF (rowE (esK ks) (i161 : Int) (roundsF (esK ks) a i161) i175) v191_1 x v191_0 = (rowE (esK ks) (i161 : Int) (roundsF (esK ks) a i161) i175) v191_0 := fun _ => if_neg (by omega)
         have qf487 := of_decide_eq_false (hw217.symm.trans f487)
         have qf544 := of_decide_eq_true (hw490.symm.trans f544)
         first | (exfalso; omega) | ((first | rw [half_n1 (u := v191_0) (v := v191_1) (by first | omega | (simp only [hu1, hu2]; omega))] | rw [half_n2 (u := v191_0) (v := v191_1) (by first | omega | (simp only [hu1, hu2]; omega))] | rw [half_pos (u := v191_0) (v := v191_1) (by first | omega | (simp only [hu1, hu2]; omega)) (by first | omega | (simp only [hu1, hu2]; omega))]); (first | rw [half_n1 (u := v191_1) (v := v191_0) (by first | omega | (simp only [hu1, hu2]; omega))] | rw [half_n2 (u := v191_1) (v := v191_0) (by first | omega | (simp only [hu1, hu2]; omega))] | rw [half_pos (u := v191_1) (v := v191_0) (by first | omega | (simp only [hu1, hu2]; omega)) (by first | omega | (simp only [hu1, hu2]; omega))]))
        exact res_norm (by kernel_rfl) ⟨z175 - 1, hz9, i175 + 1, hy9, b547, b548, b549, b550, b551, hi9, g553, r554, (by rw [hn9]; exact s557)⟩
       ·
        intro vs ls H558 E558 st hE
        have f559 : w490 = false := bf st 0
        obtain ⟨w560, hw560⟩ : ∃ z, z = (IntKind.wrap .i64 ((i175 : Int) + 1)) := ⟨_, rfl⟩
        have b561 : E558 12 = .int .i64 w560 := by rw [hw560]; exact eo st hE 12 _
        have b562 := eo st hE 3 (.ptr p3 0)
        have b563 := eo st hE 9 S38
        have b564 := eo st hE 11 (.int .i64 (i161 : Int))
        have b565 := eo st hE 8 (.int .i64 (ms.length : Int))
        have b566 := eo st hE 2 (.int .i64 (b : Int))
        have g567 : Grew H485 H558 := (gk st)
        have g568 : Grew H H558 := Grew.trans g500 g567
        have r569 := g567.at r501
        have s572 := s504.grew g567
        clear st hE vs ls
        have hz9 : z175 - 1 < z175 := by omega
        have hy9 : z175 - 1 + (i175 + 1) = ks.length := by omega
        have hi9 : E558 12 = .int .i64 ((i175 + 1 : Nat) : Int) := by rw [b561, hw560, wrap64 (by omega)]
        have hn9 : vecI (rowE (esK ks) (i161 : Int) (roundsF (esK ks) a i161) (i175 + 1)) ms.length = vecI (rowE (esK ks) (i161 : Int) (roundsF (esK ks) a i161) i175) ms.length := by
         refine congrArg (fun f => vecI f ms.length) ?_
         show stepE _ _ ((esK ks).getD i175 (0, 0)) = _
         rw [esK_get hlt191 he191]
         show halfE _ (halfE _ _ v191_0 v191_1) v191_1 v191_0 = _
         have hu1 : ∀ x, updF (rowE (esK ks) (i161 : Int) (roundsF (esK ks) a i161) i175) v191_1 x v191_1 = x := fun _ => if_pos rfl
         have hu2 : ∀ x, updF (rowE (esK ks) (i161 : Int) (roundsF (esK ks) a i161) i175) v191_1 x v191_0 = (rowE (esK ks) (i161 : Int) (roundsF (esK ks) a i161) i175) v191_0 := fun _ => if_neg (by omega)
         have qf487 := of_decide_eq_false (hw217.symm.trans f487)
         have qf559 := of_decide_eq_false (hw490.symm.trans f559)
         first | (exfalso; omega) | ((first | rw [half_n1 (u := v191_0) (v := v191_1) (by first | omega | (simp only [hu1, hu2]; omega))] | rw [half_n2 (u := v191_0) (v := v191_1) (by first | omega | (simp only [hu1, hu2]; omega))] | rw [half_pos (u := v191_0) (v := v191_1) (by first | omega | (simp only [hu1, hu2]; omega)) (by first | omega | (simp only [hu1, hu2]; omega))]); (first | rw [half_n1 (u := v191_1) (v := v191_0) (by first | omega | (simp only [hu1, hu2]; omega))] | rw [half_n2 (u := v191_1) (v := v191_0) (by first | omega | (simp only [hu1, hu2]; omega))] | rw [half_pos (u := v191_1) (v := v191_0) (by first | omega | (simp only [hu1, hu2]; omega)) (by first | omega | (simp only [hu1, hu2]; omega))]))
        exact res_norm (by kernel_rfl) ⟨z175 - 1, hz9, i175 + 1, hy9, b562, b563, b564, b565, b566, hi9, g568, r569, (by rw [hn9]; exact s572)⟩
      ·
       intro vs ls H573 E573 st hE
       have f574 : ¬ (v232_0 = (i161 : Int)) := df st 0
       have f575 : w217 = false := bf st 1
       obtain ⟨w576, hw576⟩ : ∃ z, z = (IntKind.wrap .i64 ((i175 : Int) + 1)) := ⟨_, rfl⟩
       have b577 : E573 12 = .int .i64 w576 := by rw [hw576]; exact eo st hE 12 _
       have b578 := eo st hE 3 (.ptr p3 0)
       have b579 := eo st hE 9 S38
       have b580 := eo st hE 11 (.int .i64 (i161 : Int))
       have b581 := eo st hE 8 (.int .i64 (ms.length : Int))
       have b582 := eo st hE 2 (.int .i64 (b : Int))
       have g583 : Grew H213 H573 := (gk st)
       have g584 : Grew H H573 := Grew.trans g227 g583
       have r585 := g583.at r228
       have s588 := s231.grew g583
       clear st hE vs ls
       have hz9 : z175 - 1 < z175 := by omega
       have hy9 : z175 - 1 + (i175 + 1) = ks.length := by omega
       have hi9 : E573 12 = .int .i64 ((i175 + 1 : Nat) : Int) := by rw [b577, hw576, wrap64 (by omega)]
       have hn9 : vecI (rowE (esK ks) (i161 : Int) (roundsF (esK ks) a i161) (i175 + 1)) ms.length = vecI (rowE (esK ks) (i161 : Int) (roundsF (esK ks) a i161) i175) ms.length := by
        refine congrArg (fun f => vecI f ms.length) ?_
        show stepE _ _ ((esK ks).getD i175 (0, 0)) = _
        rw [esK_get hlt191 he191]
        show halfE _ (halfE _ _ v191_0 v191_1) v191_1 v191_0 = _
        have hu1 : ∀ x, updF (rowE (esK ks) (i161 : Int) (roundsF (esK ks) a i161) i175) v191_1 x v191_1 = x := fun _ => if_pos rfl
        have hu2 : ∀ x, updF (rowE (esK ks) (i161 : Int) (roundsF (esK ks) a i161) i175) v191_1 x v191_0 = (rowE (esK ks) (i161 : Int) (roundsF (esK ks) a i161) i175) v191_0 := fun _ => if_neg (by omega)
        have qf575 := of_decide_eq_false (hw217.symm.trans f575)
        first | (exfalso; omega) | ((first | rw [half_n1 (u := v191_0) (v := v191_1) (by first | omega | (simp only [hu1, hu2]; omega))] | rw [half_n2 (u := v191_0) (v := v191_1) (by first | omega | (simp only [hu1, hu2]; omega))] | rw [half_pos (u := v191_0) (v := v191_1) (by first | omega | (simp only [hu1, hu2]; omega)) (by first | omega | (simp only [hu1, hu2]; omega))]); (first | rw [half_n1 (u := v191_1) (v := v191_0) (by first | omega | (simp only [hu1, hu2]; omega))] | rw [half_n2 (u := v191_1) (v := v191_0) (by first | omega | (simp only [hu1, hu2]; omega))] | rw [half_pos (u := v191_1) (v := v191_0) (by first | omega | (simp only [hu1, hu2]; omega)) (by first | omega | (simp only [hu1, hu2]; omega))]))
       exact res_norm (by kernel_rfl) ⟨z175 - 1, hz9, i175 + 1, hy9, b578, b579, b580, b581, b582, hi9, g584, r585, (by rw [hn9]; exact s588)⟩
     ·
      intro vs ls H589 E589 st hE
      have f590 : ¬ (v210_0 = (i161 : Int)) := df st 0
      have b591 := eo st hE 87 S38
      have b592 := eo st hE 91 (.int .i64 (v191_1 : Int))
      have b593 := eo st hE 11 (.int .i64 (i161 : Int))
      have b594 := eo st hE 9 S38
      have b595 := eo st hE 13 (.ptr lS191 ((i175 * 6) + 0))
      have b596 := eo st hE 12 (.int .i64 (i175 : Int))
      have b597 := eo st hE 8 (.int .i64 (ms.length : Int))
      have b598 := eo st hE 3 (.ptr p3 0)
      have b599 := eo st hE 2 (.int .i64 (b : Int))
      have g600 : Grew H195 H589 := (gk st)
      have g601 : Grew H H589 := Grew.trans g206 g600
      have r602 := g600.at r207
      have r603 := g600.at r208
      have s605 := s209.grew g600
      clear st hE vs ls
      have hlt606 : v191_1 < (vecI (rowE (esK ks) (i161 : Int) (roundsF (esK ks) a i161) i175) ms.length).length := by rw [vecI_len]; omega
      obtain ⟨lS606, cap606, rest606, wr606, eS606, gS606⟩ := (s605.toL).isSl hlt606
      have ne607 : Apart p3 lS606 := ⟨fun e => (show ApartL (S38) p3 by assumption).ne ⟨0, _, _, _, by rw [e]; exact eS606⟩⟩
      obtain ⟨v606_0, hm606, hv606⟩ := vec_parts' (rowE (esK ks) (i161 : Int) (roundsF (esK ks) a i161) i175) ms.length v191_1 hlt606
      have he606 : (vecI (rowE (esK ks) (i161 : Int) (roundsF (esK ks) a i161) i175) ms.length).getD v191_1 [] = [.int .i64 v606_0] := by rw [← hm606, List.getD_eq_getElem?_getD, List.getElem?_eq_getElem hlt606]; rfl
      have q608 := q212.app (.cons ⟨_, rfl⟩ .nil : KdsL [KI] [.int .i64 v606_0])
      refine run_mc (φ := φ0) (pm := pmR 3 [(.ia 1 (n1 6) (nI 14), .ptr 2 0)] 0) 20 (ws := [⟨p3, 0, [n1 0, n1 1], false⟩, ⟨lS191, (i175 * 6), [nI 13, nI 14, nF 15, nF 16, nF 17, nF 18], false⟩, ⟨lS606, (v191_1 * 1), [nI 20], false⟩]) (env := [(87, n1 6), (91, nI 14), (11, nI 10), (9, n1 6), (13, .ptr 1 0), (12, nI 11), (8, nI 5), (3, .ptr 0 0), (2, nI 3)]) q608 (.cons (wR r602 q608) (.cons (win_elem hrk r603 hlt191 rfl (by rw [hm191]; exact (dL q608))) (.cons (win_elem (vecI_recs (rowE (esK ks) (i161 : Int) (roundsF (esK ks) a i161) i175) ms.length) gS606 hlt606 rfl (by rw [hm606]; exact (dL q608))) .nil))) (sepOk_ro rfl) (.cons (rule_iaS (k := v191_1) (dE q608) eS606 (dE q608) hlt606 rfl) .nil) (eC q608 (.cons b591 (.cons b592 (.cons b593 (.cons b594 (.cons b595 (.cons b596 (.cons b597 (.cons b598 (.cons b599 .nil)))))))))) tb_ok ap_ok ?_
      refine all2 (by kernel_rfl) ?_ ?_
      ·
       intro vs ls H609 E609 st hE
       have f610 : v606_0 = (i161 : Int) := dt st 0
       have b611 := eo st hE 97 S38
       have b612 := eo st hE 101 (.int .i64 (v191_0 : Int))
       obtain ⟨w613, hw613⟩ : ∃ z, z = (decide (v606_0 = (i161 : Int))) := ⟨_, rfl⟩
       have b614 : E609 96 = .bool w613 := by rw [hw613]; exact eo st hE 96 _
       have b615 := eo st hE 9 S38
       have b616 := eo st hE 13 (.ptr lS191 ((i175 * 6) + 0))
       have b617 := eo st hE 11 (.int .i64 (i161 : Int))
       have b618 := eo st hE 12 (.int .i64 (i175 : Int))
       have b619 := eo st hE 8 (.int .i64 (ms.length : Int))
       have b620 := eo st hE 3 (.ptr p3 0)
       have b621 := eo st hE 2 (.int .i64 (b : Int))
       have g622 : Grew H589 H609 := (gk st)
       have g623 : Grew H H609 := Grew.trans g601 g622
       have r624 := g622.at r602
       have r625 := g622.at r603
       have s627 := s605.grew g622
       clear st hE vs ls
       have hlt628 : v191_0 < (vecI (rowE (esK ks) (i161 : Int) (roundsF (esK ks) a i161) i175) ms.length).length := by rw [vecI_len]; omega
       obtain ⟨lS628, cap628, rest628, wr628, eS628, gS628⟩ := (s627.toL).isSl hlt628
       have ne629 : Apart p3 lS628 := ⟨fun e => (show ApartL (S38) p3 by assumption).ne ⟨0, _, _, _, by rw [e]; exact eS628⟩⟩
       obtain ⟨v628_0, hm628, hv628⟩ := vec_parts' (rowE (esK ks) (i161 : Int) (roundsF (esK ks) a i161) i175) ms.length v191_0 hlt628
       have he628 : (vecI (rowE (esK ks) (i161 : Int) (roundsF (esK ks) a i161) i175) ms.length).getD v191_0 [] = [.int .i64 v628_0] := by rw [← hm628, List.getD_eq_getElem?_getD, List.getElem?_eq_getElem hlt628]; rfl
       have hq628 := he210.symm.trans he628
       simp only [List.cons.injEq, AV.flt.injEq, AV.int.injEq, Int.natCast_inj, true_and, and_true] at hq628
       obtain ⟨rfl⟩ := hq628
       have q630 := q608.app (.cons ⟨_, rfl⟩ (.cons ⟨_, rfl⟩ .nil) : KdsL [.bool, KI] [.bool w613, .int .i64 v210_0])
       refine run_mc (φ := φ0) (pm := pmR 3 [(.ia 1 (n1 6) (nI 13), .ptr 2 0)] 0) 20 (ws := [⟨p3, 0, [n1 0, n1 1], false⟩, ⟨lS191, (i175 * 6), [nI 13, nI 14, nF 15, nF 16, nF 17, nF 18], false⟩, ⟨lS628, (v191_0 * 1), [nI 22], false⟩]) (env := [(97, n1 6), (101, nI 13), (96, nB 21), (9, n1 6), (13, .ptr 1 0), (11, nI 10), (12, nI 11), (8, nI 5), (3, .ptr 0 0), (2, nI 3)]) q630 (.cons (wR r624 q630) (.cons (win_elem hrk r625 hlt191 rfl (by rw [hm191]; exact (dL q630))) (.cons (win_elem (vecI_recs (rowE (esK ks) (i161 : Int) (roundsF (esK ks) a i161) i175) ms.length) gS628 hlt628 rfl (by rw [hm628]; exact (dL q630))) .nil))) (sepOk_ro rfl) (.cons (rule_iaS (k := v191_0) (dE q630) eS628 (dE q630) hlt628 rfl) .nil) (eC q630 (.cons b611 (.cons b612 (.cons b614 (.cons b615 (.cons b616 (.cons b617 (.cons b618 (.cons b619 (.cons b620 (.cons b621 .nil))))))))))) tb_ok ap_ok ?_
       refine all3 (by kernel_rfl) ?_ ?_ ?_
       ·
        intro vs ls H631 E631 st hE
        have f632 : v210_0 < 0 := dt st 0
        have f633 : w613 = true := bf st 1
        have b634 := eo st hE 113 (.ptr lS628 ((v191_0 * 1) + 0))
        obtain ⟨w635, hw635⟩ : ∃ z, z = (IntKind.wrap .i64 ((i161 : Int) + 1)) := ⟨_, rfl⟩
        have b636 : E631 112 = .int .i64 w635 := by rw [hw635]; exact eo st hE 112 _
        have b637 := eo st hE 12 (.int .i64 (i175 : Int))
        have b638 := eo st hE 11 (.int .i64 (i161 : Int))
        have b639 := eo st hE 8 (.int .i64 (ms.length : Int))
        have b640 := eo st hE 3 (.ptr p3 0)
        have b641 := eo st hE 9 S38
        have b642 := eo st hE 2 (.int .i64 (b : Int))
        have g643 : Grew H609 H631 := (gk st)
        have g644 : Grew H H631 := Grew.trans g623 g643
        have r645 := g643.at r624
        have s648 := s627.grew g643
        clear st hE vs ls
        refine res_storeS (d := none) (n := 1) (x := .tmp 113) (y := .tmp 112) (by kernel_rfl) (S := S38) (ms := (vecI (rowE (esK ks) (i161 : Int) (roundsF (esK ks) a i161) i175) ms.length)) (k := v191_0) (m' := [.int .i64 w635]) (s648) eS628 b634 hlt628 (vecI_recs (rowE (esK ks) (i161 : Int) (roundsF (esK ks) a i161) i175) ms.length).len (by show AV.cells (E631 112) = _; rw [b636]; rfl) rfl rfl rfl ?_
        intro H649 s649 oo649
        have hln649 : ((vecI (rowE (esK ks) (i161 : Int) (roundsF (esK ks) a i161) i175) ms.length).set v191_0 [.int .i64 w635]).length = (vecI (rowE (esK ks) (i161 : Int) (roundsF (esK ks) a i161) i175) ms.length).length := by simp
        have g650 : Grew H H649 := OnlyS.own g644 fr42 oo649
        have r651 := oo649.at r645 (by assumption)
        rw [vecI_set] at s649
        have q652 := q630.app (.cons ⟨_, rfl⟩ .nil : KdsL [KI] [.int .i64 w635])
        refine run_mc (φ := φ0) (pm := pmR 1 [] 0) 20 (ws := [⟨p3, 0, [n1 0, n1 1], false⟩]) (env := [(112, nI 23), (12, nI 11), (11, nI 10), (8, nI 5), (3, .ptr 0 0), (9, n1 6), (2, nI 3)]) q652 (.cons (wR r651 q652) .nil) (sepOk_ro rfl) .nil (eC q652 (.cons (put_no b636) (.cons (put_no b637) (.cons (put_no b638) (.cons (put_no b639) (.cons (put_no b640) (.cons (put_no b641) (.cons (put_no b642) .nil)))))))) tb_ok ap_ok ?_
        refine all1 (by kernel_rfl) ?_
        intro vs ls H653 E653 st hE
        obtain ⟨w654, hw654⟩ : ∃ z, z = (IntKind.wrap .i64 ((i175 : Int) + 1)) := ⟨_, rfl⟩
        have b655 : E653 12 = .int .i64 w654 := by rw [hw654]; exact eo st hE 12 _
        have b656 := eo st hE 3 (.ptr p3 0)
        have b657 := eo st hE 9 S38
        have b658 := eo st hE 11 (.int .i64 (i161 : Int))
        have b659 := eo st hE 8 (.int .i64 (ms.length : Int))
        have b660 := eo st hE 2 (.int .i64 (b : Int))
        have g661 : Grew H649 H653 := (gk st)
        have g662 : Grew H H653 := Grew.trans g650 g661
        have r663 := g661.at r651
        have s664 := s649.grew g661
        clear st hE vs ls
        have hz9 : z175 - 1 < z175 := by omega
        have hy9 : z175 - 1 + (i175 + 1) = ks.length := by omega
        have hi9 : E653 12 = .int .i64 ((i175 + 1 : Nat) : Int) := by rw [b655, hw654, wrap64 (by omega)]
        have hn9 : vecI (rowE (esK ks) (i161 : Int) (roundsF (esK ks) a i161) (i175 + 1)) ms.length = vecI (updF (rowE (esK ks) (i161 : Int) (roundsF (esK ks) a i161) i175) v191_0 w635) ms.length := by
         refine congrArg (fun f => vecI f ms.length) ?_
         show stepE _ _ ((esK ks).getD i175 (0, 0)) = _
         rw [esK_get hlt191 he191]
         show halfE _ (halfE _ _ v191_0 v191_1) v191_1 v191_0 = _
         have hhw635 : w635 = (i161 : Int) + 1 := by rw [hw635]; exact wrap_i64 (by omega) (by omega)
         have hu1 : ∀ x, updF (rowE (esK ks) (i161 : Int) (roundsF (esK ks) a i161) i175) v191_1 x v191_1 = x := fun _ => if_pos rfl
         have hu2 : ∀ x, updF (rowE (esK ks) (i161 : Int) (roundsF (esK ks) a i161) i175) v191_1 x v191_0 = (rowE (esK ks) (i161 : Int) (roundsF (esK ks) a i161) i175) v191_0 := fun _ => if_neg (by omega)
         have qf633 := of_decide_eq_true (hw613.symm.trans f633)
         first | (exfalso; omega) | ((first | rw [half_n1 (u := v191_0) (v := v191_1) (by first | omega | (simp only [hu1, hu2]; omega))] | rw [half_n2 (u := v191_0) (v := v191_1) (by first | omega | (simp only [hu1, hu2]; omega))] | rw [half_pos (u := v191_0) (v := v191_1) (by first | omega | (simp only [hu1, hu2]; omega)) (by first | omega | (simp only [hu1, hu2]; omega))]); (first | rw [half_n1 (u := v191_1) (v := v191_0) (by first | omega | (simp only [hu1, hu2]; omega))] | rw [half_n2 (u := v191_1) (v := v191_0) (by first | omega | (simp only [hu1, hu2]; omega))] | rw [half_pos (u := v191_1) (v := v191_0) (by first | omega | (simp only [hu1, hu2]; omega)) (by first | omega | (simp only [hu1, hu2]; omega))]); rw [hhw635])
        exact res_norm (by kernel_rfl) ⟨z175 - 1, hz9, i175 + 1, hy9, b656, b657, b658, b659, b660, hi9, g662, r663, (by rw [hn9]; exact s664)⟩
       ·
        intro vs ls H665 E665 st hE
        have f666 : ¬ (v210_0 < 0) := df st 0
        have f667 : w613 = true := bf st 1
        obtain ⟨w668, hw668⟩ : ∃ z, z = (IntKind.wrap .i64 ((i175 : Int) + 1)) := ⟨_, rfl⟩
        have b669 : E665 12 = .int .i64 w668 := by rw [hw668]; exact eo st hE 12 _
        have b670 := eo st hE 3 (.ptr p3 0)
        have b671 := eo st hE 9 S38
        have b672 := eo st hE 11 (.int .i64 (i161 : Int))
        have b673 := eo st hE 8 (.int .i64 (ms.length : Int))
        have b674 := eo st hE 2 (.int .i64 (b : Int))
        have g675 : Grew H609 H665 := (gk st)
        have g676 : Grew H H665 := Grew.trans g623 g675
        have r677 := g675.at r624
        have s680 := s627.grew g675
        clear st hE vs ls
        have hz9 : z175 - 1 < z175 := by omega
        have hy9 : z175 - 1 + (i175 + 1) = ks.length := by omega
        have hi9 : E665 12 = .int .i64 ((i175 + 1 : Nat) : Int) := by rw [b669, hw668, wrap64 (by omega)]
        have hn9 : vecI (rowE (esK ks) (i161 : Int) (roundsF (esK ks) a i161) (i175 + 1)) ms.length = vecI (rowE (esK ks) (i161 : Int) (roundsF (esK ks) a i161) i175) ms.length := by
         refine congrArg (fun f => vecI f ms.length) ?_
         show stepE _ _ ((esK ks).getD i175 (0, 0)) = _
         rw [esK_get hlt191 he191]
         show halfE _ (halfE _ _ v191_0 v191_1) v191_1 v191_0 = _
         have hu1 : ∀ x, updF (rowE (esK ks) (i161 : Int) (roundsF (esK ks) a i161) i175) v191_1 x v191_1 = x := fun _ => if_pos rfl
         have hu2 : ∀ x, updF (rowE (esK ks) (i161 : Int) (roundsF (esK ks) a i161) i175) v191_1 x v191_0 = (rowE (esK ks) (i161 : Int) (roundsF (esK ks) a i161) i175) v191_0 := fun _ => if_neg (by omega)
         have qf667 := of_decide_eq_true (hw613.symm.trans f667)
         first | (exfalso; omega) | ((first | rw [half_n1 (u := v191_0) (v := v191_1) (by first | omega | (simp only [hu1, hu2]; omega))] | rw [half_n2 (u := v191_0) (v := v191_1) (by first | omega | (simp only [hu1, hu2]; omega))] | rw [half_pos (u := v191_0) (v := v191_1) (by first | omega | (simp only [hu1, hu2]; omega)) (by first | omega | (simp only [hu1, hu2]; omega))]); (first | rw [half_n1 (u := v191_1) (v := v191_0) (by first | omega | (simp only [hu1, hu2]; omega))] | rw [half_n2 (u := v191_1) (v := v191_0) (by first | omega | (simp only [hu1, hu2]; omega))] | rw [half_pos (u := v191_1) (v := v191_0) (by first | omega | (simp only [hu1, hu2]; omega)) (by first | omega | (simp only [hu1, hu2]; omega))]))
        exact res_norm (by kernel_rfl) ⟨z175 - 1, hz9, i175 + 1, hy9, b670, b671, b672, b673, b674, hi9, g676, r677, (by rw [hn9]; exact s680)⟩
       ·
        intro vs ls H681 E681 st hE
        have f682 : w613 = false := bf st 0
        obtain ⟨w683, hw683⟩ : ∃ z, z = (IntKind.wrap .i64 ((i175 : Int) + 1)) := ⟨_, rfl⟩
        have b684 : E681 12 = .int .i64 w683 := by rw [hw683]; exact eo st hE 12 _
        have b685 := eo st hE 3 (.ptr p3 0)
        have b686 := eo st hE 9 S38
        have b687 := eo st hE 11 (.int .i64 (i161 : Int))
        have b688 := eo st hE 8 (.int .i64 (ms.length : Int))
        have b689 := eo st hE 2 (.int .i64 (b : Int))
        have g690 : Grew H609 H681 := (gk st)
        have g691 : Grew H H681 := Grew.trans g623 g690
        have r692 := g690.at r624
        have s695 := s627.grew g690
        clear st hE vs ls
        have hz9 : z175 - 1 < z175 := by omega
        have hy9 : z175 - 1 + (i175 + 1) = ks.length := by omega
        have hi9 : E681 12 = .int .i64 ((i175 + 1 : Nat) : Int) := by rw [b684, hw683, wrap64 (by omega)]
        have hn9 : vecI (rowE (esK ks) (i161 : Int) (roundsF (esK ks) a i161) (i175 + 1)) ms.length = vecI (rowE (esK ks) (i161 : Int) (roundsF (esK ks) a i161) i175) ms.length := by
         refine congrArg (fun f => vecI f ms.length) ?_
         show stepE _ _ ((esK ks).getD i175 (0, 0)) = _
         rw [esK_get hlt191 he191]
         show halfE _ (halfE _ _ v191_0 v191_1) v191_1 v191_0 = _
         have hu1 : ∀ x, updF (rowE (esK ks) (i161 : Int) (roundsF (esK ks) a i161) i175) v191_1 x v191_1 = x := fun _ => if_pos rfl
         have hu2 : ∀ x, updF (rowE (esK ks) (i161 : Int) (roundsF (esK ks) a i161) i175) v191_1 x v191_0 = (rowE (esK ks) (i161 : Int) (roundsF (esK ks) a i161) i175) v191_0 := fun _ => if_neg (by omega)
         have qf682 := of_decide_eq_false (hw613.symm.trans f682)
         first | (exfalso; omega) | ((first | rw [half_n1 (u := v191_0) (v := v191_1) (by first | omega | (simp only [hu1, hu2]; omega))] | rw [half_n2 (u := v191_0) (v := v191_1) (by first | omega | (simp only [hu1, hu2]; omega))] | rw [half_pos (u := v191_0) (v := v191_1) (by first | omega | (simp only [hu1, hu2]; omega)) (by first | omega | (simp only [hu1, hu2]; omega))]); (first | rw [half_n1 (u := v191_1) (v := v191_0) (by first | omega | (simp only [hu1, hu2]; omega))] | rw [half_n2 (u := v191_1) (v := v191_0) (by first | omega | (simp only [hu1, hu2]; omega))] | rw [half_pos (u := v191_1) (v := v191_0) (by first | omega | (simp only [hu1, hu2]; omega)) (by first | omega | (simp only [hu1, hu2]; omega))]))
        exact res_norm (by kernel_rfl) ⟨z175 - 1, hz9, i175 + 1, hy9, b685, b686, b687, b688, b689, hi9, g691, r692, (by rw [hn9]; exact s695)⟩
      ·
       intro vs ls H696 E696 st hE
       have f697 : ¬ (v606_0 = (i161 : Int)) := df st 0
       obtain ⟨w698, hw698⟩ : ∃ z, z = (IntKind.wrap .i64 ((i175 : Int) + 1)) := ⟨_, rfl⟩
       have b699 : E696 12 = .int .i64 w698 := by rw [hw698]; exact eo st hE 12 _
       have b700 := eo st hE 3 (.ptr p3 0)
       have b701 := eo st hE 9 S38
       have b702 := eo st hE 11 (.int .i64 (i161 : Int))
       have b703 := eo st hE 8 (.int .i64 (ms.length : Int))
       have b704 := eo st hE 2 (.int .i64 (b : Int))
       have g705 : Grew H589 H696 := (gk st)
       have g706 : Grew H H696 := Grew.trans g601 g705
       have r707 := g705.at r602
       have s710 := s605.grew g705
       clear st hE vs ls
       have hz9 : z175 - 1 < z175 := by omega
       have hy9 : z175 - 1 + (i175 + 1) = ks.length := by omega
       have hi9 : E696 12 = .int .i64 ((i175 + 1 : Nat) : Int) := by rw [b699, hw698, wrap64 (by omega)]
       have hn9 : vecI (rowE (esK ks) (i161 : Int) (roundsF (esK ks) a i161) (i175 + 1)) ms.length = vecI (rowE (esK ks) (i161 : Int) (roundsF (esK ks) a i161) i175) ms.length := by
        refine congrArg (fun f => vecI f ms.length) ?_
        show stepE _ _ ((esK ks).getD i175 (0, 0)) = _
        rw [esK_get hlt191 he191]
        show halfE _ (halfE _ _ v191_0 v191_1) v191_1 v191_0 = _
        have hu1 : ∀ x, updF (rowE (esK ks) (i161 : Int) (roundsF (esK ks) a i161) i175) v191_1 x v191_1 = x := fun _ => if_pos rfl
        have hu2 : ∀ x, updF (rowE (esK ks) (i161 : Int) (roundsF (esK ks) a i161) i175) v191_1 x v191_0 = (rowE (esK ks) (i161 : Int) (roundsF (esK ks) a i161) i175) v191_0 := fun _ => if_neg (by omega)
        first | (exfalso; omega) | ((first | rw [half_n1 (u := v191_0) (v := v191_1) (by first | omega | (simp only [hu1, hu2]; omega))] | rw [half_n2 (u := v191_0) (v := v191_1) (by first | omega | (simp only [hu1, hu2]; omega))] | rw [half_pos (u := v191_0) (v := v191_1) (by first | omega | (simp only [hu1, hu2]; omega)) (by first | omega | (simp only [hu1, hu2]; omega))]); (first | rw [half_n1 (u := v191_1) (v := v191_0) (by first | omega | (simp only [hu1, hu2]; omega))] | rw [half_n2 (u := v191_1) (v := v191_0) (by first | omega | (simp only [hu1, hu2]; omega))] | rw [half_pos (u := v191_1) (v := v191_0) (by first | omega | (simp only [hu1, hu2]; omega)) (by first | omega | (simp only [hu1, hu2]; omega))]))
       exact res_norm (by kernel_rfl) ⟨z175 - 1, hz9, i175 + 1, hy9, b700, b701, b702, b703, b704, hi9, g706, r707, (by rw [hn9]; exact s710)⟩
    ·
     intro vs ls H711 E711 st hE
     have f712 : ¬ ((i175 : Int) < (ks.length : Int)) := df st 0
     have b713 := eo st hE 12 (.int .i64 (i175 : Int))
     have b714 := eo st hE 3 (.ptr p3 0)
     have b715 := eo st hE 50 (.ptr p3 1)
     have b716 := eo st hE 51 Sk
     have b717 := eo st hE 49 (.int .i64 (i175 : Int))
     have b718 := eo st hE 52 (.int .i64 (ks.length : Int))
     obtain ⟨w719, hw719⟩ : ∃ z, z = (decide ((i175 : Int) < (ks.length : Int))) := ⟨_, rfl⟩
     have b720 : E711 53 = .bool w719 := by rw [hw719]; exact eo st hE 53 _
     have b721 := eo st hE 9 S38
     have b722 := eo st hE 11 (.int .i64 (i161 : Int))
     have b723 := eo st hE 8 (.int .i64 (ms.length : Int))
     have b724 := eo st hE 2 (.int .i64 (b : Int))
     have g725 : Grew Hi175 H711 := (gk st)
     have g726 : Grew H H711 := Grew.trans gt175 g725
     have r727 := g725.at r175_0
     have s728 := so175_0.grew g725
     clear st hE vs ls
     refine res_exit (id := 4) (by kernel_rfl) ?_
     have q729 := q176.app (.cons ⟨_, rfl⟩ .nil : KdsL [.bool] [.bool w719])
     refine run_mc (φ := φ0) (pm := pmR 1 [] 0) 20 (ws := [⟨p3, 0, [n1 0, n1 1], false⟩]) (env := [(12, nI 11), (3, .ptr 0 0), (50, .ptr 0 1), (51, n1 1), (49, nI 11), (52, nI 12), (53, nB 13), (9, n1 6), (11, nI 10), (8, nI 5), (2, nI 3)]) q729 (.cons (wR r727 q729) .nil) (sepOk_ro rfl) .nil (eC q729 (.cons b713 (.cons b714 (.cons b715 (.cons b716 (.cons b717 (.cons b718 (.cons b720 (.cons b721 (.cons b722 (.cons b723 (.cons b724 .nil)))))))))))) tb_ok ap_ok ?_
     refine all1 (by kernel_rfl) ?_
     intro vs ls H730 E730 st hE
     obtain ⟨w731, hw731⟩ : ∃ z, z = (IntKind.wrap .i64 ((i161 : Int) + 1)) := ⟨_, rfl⟩
     have b732 : E730 11 = .int .i64 w731 := by rw [hw731]; exact eo st hE 11 _
     have b733 := eo st hE 8 (.int .i64 (ms.length : Int))
     have b734 := eo st hE 3 (.ptr p3 0)
     have b735 := eo st hE 9 S38
     have b736 := eo st hE 2 (.int .i64 (b : Int))
     have g737 : Grew H711 H730 := (gk st)
     have g738 : Grew H H730 := Grew.trans g726 g737
     have r739 := g737.at r727
     have s740 := s728.grew g737
     clear st hE vs ls
     have hz9 : z161 - 1 < z161 := by omega
     have hy9 : z161 - 1 + (i161 + 1) = ms.length := by omega
     have hi9 : E730 11 = .int .i64 ((i161 + 1 : Nat) : Int) := by rw [b732, hw731, wrap64 (by omega)]
     have hn9 : vecI (roundsF (esK ks) a (i161 + 1)) ms.length = vecI (rowE (esK ks) (i161 : Int) (roundsF (esK ks) a i161) i175) ms.length := by rw [show i175 = (esK ks).length by rw [esK_len]; omega]; rfl
     exact res_norm (by kernel_rfl) ⟨z161 - 1, hz9, i161 + 1, hy9, b733, b734, b735, b736, hi9, g738, r739, (by rw [hn9]; exact s740)⟩
   ·
    intro vs ls H741 E741 st hE
    have f742 : ¬ ((i161 : Int) < (ms.length : Int)) := df st 0
    have b743 := eo st hE 11 (.int .i64 (i161 : Int))
    have b744 := eo st hE 8 (.int .i64 (ms.length : Int))
    have b745 := eo st hE 44 (.int .i64 (i161 : Int))
    have b746 := eo st hE 45 (.int .i64 (ms.length : Int))
    obtain ⟨w747, hw747⟩ : ∃ z, z = (decide ((i161 : Int) < (ms.length : Int))) := ⟨_, rfl⟩
    have b748 : E741 46 = .bool w747 := by rw [hw747]; exact eo st hE 46 _
    have b749 := eo st hE 3 (.ptr p3 0)
    have b750 := eo st hE 9 S38
    have b751 := eo st hE 2 (.int .i64 (b : Int))
    have g752 : Grew Hi161 H741 := (gk st)
    have g753 : Grew H H741 := Grew.trans gt161 g752
    have r754 := g752.at r161_0
    have s755 := so161_0.grew g752
    clear st hE vs ls
    refine res_exit (id := 2) (by kernel_rfl) ?_
    have q756 := q162.app (.cons ⟨_, rfl⟩ .nil : KdsL [.bool] [.bool w747])
    refine run_mc (φ := φ0) (pm := pmR 1 [] 0) 20 (ws := [⟨p3, 0, [n1 0, n1 1], false⟩]) (env := [(11, nI 10), (8, nI 5), (44, nI 10), (45, nI 5), (46, nB 11), (3, .ptr 0 0), (9, n1 6), (2, nI 3)]) q756 (.cons (wR r754 q756) .nil) (sepOk_ro rfl) .nil (eC q756 (.cons b743 (.cons b744 (.cons b745 (.cons b746 (.cons b748 (.cons b749 (.cons b750 (.cons b751 .nil))))))))) tb_ok ap_ok ?_
    refine all1 (by kernel_rfl) ?_
    intro vs ls H757 E757 st hE
    have b758 := eo st hE 114 S38
    have b759 := eo st hE 115 (.int .i64 (b : Int))
    have b760 := eo st hE 9 S38
    have b761 := eo st hE 2 (.int .i64 (b : Int))
    have g762 : Grew H741 H757 := (gk st)
    have g763 : Grew H H757 := Grew.trans g753 g762
    have s765 := s755.grew g762
    clear st hE vs ls
    have hlt766 : b < (vecI (roundsF (esK ks) a i161) ms.length).length := by rw [vecI_len]; omega
    obtain ⟨lS766, cap766, rest766, wr766, eS766, gS766⟩ := (s765.toL).isSl hlt766
    obtain ⟨v766_0, hm766, hv766⟩ := vec_parts' (roundsF (esK ks) a i161) ms.length b hlt766
    have he766 : (vecI (roundsF (esK ks) a i161) ms.length).getD b [] = [.int .i64 v766_0] := by rw [← hm766, List.getD_eq_getElem?_getD, List.getElem?_eq_getElem hlt766]; rfl
    have q767 := q756.app (.cons ⟨_, rfl⟩ .nil : KdsL [KI] [.int .i64 v766_0])
    refine run_mc (φ := φ0) (pm := pmR 1 [(.ia 1 (n1 6) (nI 3), .ptr 0 0)] 0) 20 (ws := [⟨lS766, (b * 1), [nI 12], false⟩]) (env := [(114, n1 6), (115, nI 3), (9, n1 6), (2, nI 3)]) q767 (.cons (win_elem (vecI_recs (roundsF (esK ks) a i161) ms.length) gS766 hlt766 rfl (by rw [hm766]; exact (dL q767))) .nil) (sepOk_ro rfl) (.cons (rule_iaS (k := b) (dE q767) eS766 (dE q767) hlt766 rfl) .nil) (eC q767 (.cons b758 (.cons b759 (.cons b760 (.cons b761 .nil))))) tb_ok ap_ok ?_
    refine all2 (by kernel_rfl) ?_ ?_
    ·
     intro vs ls H768 E768 st hE
     have f769 : v766_0 < 0 := dt st 0
     refine res_ex (by kernel_rfl) (end_flat st.inn hE (.inr rfl) (a := .tuple [.int .i64 0, .int .i64 6]) (by kernel_rfl) (Grew.trans g763 (gk st)) rfl ⟨?_, rfl⟩)
     unfold apartG apartF; rw [if_pos f29, if_pos ⟨⟨by omega, by omega⟩, by omega, by omega⟩, show ((a : Nat) : Int).toNat = a from rfl, show ((b : Nat) : Int).toNat = b from rfl]
     rw [show i161 = ms.length by omega] at hv766
     rw [if_pos (show roundsF (esK ks) a ms.length b < 0 by omega)]
    ·
     intro vs ls H770 E770 st hE
     have f771 : ¬ (v766_0 < 0) := df st 0
     refine res_ex (by kernel_rfl) (end_flat st.inn hE (.inr rfl) (a := .tuple [.int .i64 v766_0, .int .i64 0]) (by kernel_rfl) (Grew.trans g763 (gk st)) rfl ⟨?_, rfl⟩)
     unfold apartG apartF; rw [if_pos f29, if_pos ⟨⟨by omega, by omega⟩, by omega, by omega⟩, show ((a : Nat) : Int).toNat = a from rfl, show ((b : Nat) : Int).toNat = b from rfl]
     rw [show i161 = ms.length by omega] at hv766
     rw [if_neg (show ¬ roundsF (esK ks) a ms.length b < 0 by omega), hv766]
 ·
  intro vs ls H772 E772 st hE
  have f773 : (b : Int) < 0 := dt st 0
  have f774 : ¬ ((IntKind.wrap .i64 ((ms.length : Int) - 1)) < (a : Int)) := df st 1
  rw [show IntKind.i64.wrap ((ms.length : Int) - 1) = (ms.length : Int) - 1 from wrap_i64 (by omega) (by omega)] at f774
  have f775 : ¬ ((a : Int) < 0) := df st 2
  have f776 : (okG ms ks) = true := bf st 3
  have hok := f776
  have hlen0 := okG_lenA hok
  exfalso; omega
 ·
  intro vs ls H777 E777 st hE
  have f778 : (a : Int) < 0 := dt st 0
  have f779 : (okG ms ks) = true := bf st 1
  have hok := f779
  have hlen0 := okG_lenA hok
  exfalso; omega
theorem k_spec_Apart0 (H : AHeap) (ms : List (List AV)) (hr : Recs KP ms) (S : AV) (hS : SlL H 3 ms S) (hmx : ms.length < 2 ^ 40) (ks : List (List AV)) (hrk : Recs KL ks) (Sk : AV) (hSk : SlL H 6 ks Sk) (hmxk : ks.length < 2 ^ 40) (a b : Int) (hno : ¬ ((0 ≤ a ∧ a < ms.length) ∧ 0 ≤ b ∧ b < ms.length)) : APure Try.prog 32 [.agg [S, Sk], .int .i64 a, .int .i64 b] H (.tuple [.int .i64 (apartG ms ks a b).1, .int .i64 (apartG ms ks a b).2]) := by
 refine res_start h_spec_LinksApart (by simp) ?_
 have q1 : KdsL [.one, .one, KI, KI] [S, Sk, .int .i64 a, .int .i64 b] := .cons (slOne hS) (.cons (slOne hSk) (.cons ⟨_, rfl⟩ (.cons ⟨_, rfl⟩ .nil)))
 refine run_mc (φ := φ0) (pm := pmR 0 [] 0) 20 (ws := []) (env := [(0, .agg [n1 0, n1 1]), (1, nI 2), (2, nI 3)]) q1 .nil (sepOk_ro rfl) .nil (eC q1 (.cons (t := 0) rfl (.cons (t := 1) rfl (.cons (t := 2) rfl .nil)))) tb_ok ap_ok ?_
 refine all1 (by kernel_rfl) ?_
 intro vs ls H2 E2 st hE
 obtain ⟨p3, e4, r5, n6⟩ := ptr_of st.inn hE 3 0 (by kernel_rfl) (ds := [S, Sk]) (by kernel_rfl)
 have op3 : H.next ≤ p3 := Nat.le_trans (Nat.le_refl _) (n6 (Nat.le_of_ble_eq_true rfl))
 have b7 := eo st hE 1 (.int .i64 a)
 have b8 := eo st hE 2 (.int .i64 b)
 have g9 : Grew H H2 := (gk st)
 have g10 : Grew H H2 := Grew.trans (Grew.refl _) g9
 clear st hE vs ls
 refine res_call (d := (some 14)) (f := 61) (args := [.tmp 3]) (by kernel_rfl) (R := fun z H' => z = .bool (okG ms ks) ∧ H' = H2) ?_ ?_
 ·
  show ACalls _ _ [E2 3] _ _
  rw [e4]
  exact k_l06Ok H2 p3 ms hr S (hS.grew g10) hmx ks hrk Sk (hSk.grew g10) hmxk r5
 rintro z H2 ⟨rfl, rfl⟩
 have q11 := q1.app (.cons ⟨_, rfl⟩ (.cons ⟨_, rfl⟩ .nil) : KdsL [.bool, KI] [.bool (okG ms ks), .int .i64 (ms.length : Int)])
 refine run_mc (φ := φ0) (pm := pmR 1 [(.len (n1 0), nI 5)] 0) 20 (ws := [⟨p3, 0, [n1 0, n1 1], false⟩]) (env := [(3, .ptr 0 0), (1, nI 2), (2, nI 3), (14, nB 4)]) q11 (.cons (wR r5 q11) .nil) (sepOk_ro rfl) (.cons (⟨_, _, (dE q11), (dE q11), slLen hS⟩) .nil) (eC q11 (.cons (put_ne rfl e4) (.cons (put_ne rfl b7) (.cons (put_ne rfl b8) (.cons put_same .nil))))) tb_ok ap_ok ?_
 refine all6 (by kernel_rfl) ?_ ?_ ?_ ?_ ?_ ?_
 ·
  intro vs ls H12 E12 st hE
  have f13 : (okG ms ks) = false := bf st 0
  refine res_ex (by kernel_rfl) (end_flat st.inn hE (.inr rfl) (a := .tuple [.int .i64 0, .int .i64 1]) (by kernel_rfl) (Grew.trans g10 (gk st)) rfl ⟨?_, rfl⟩)
  unfold apartG; rw [if_neg (by rw [f13]; decide)]
 ·
  intro vs ls H14 E14 st hE
  have f15 : (IntKind.wrap .i64 ((ms.length : Int) - 1)) < a := dt st 0
  rw [show IntKind.i64.wrap ((ms.length : Int) - 1) = (ms.length : Int) - 1 from wrap_i64 (by omega) (by omega)] at f15
  have f16 : ¬ (a < 0) := df st 1
  have f17 : (okG ms ks) = true := bf st 2
  have hok := f17
  have hlen0 := okG_lenA hok
  refine res_ex (by kernel_rfl) (end_flat st.inn hE (.inr rfl) (a := .tuple [.int .i64 0, .int .i64 2]) (by kernel_rfl) (Grew.trans g10 (gk st)) rfl ⟨?_, rfl⟩)
  unfold apartG; rw [if_pos f17, if_neg hno]
 ·
  intro vs ls H18 E18 st hE
  have f19 : (IntKind.wrap .i64 ((ms.length : Int) - 1)) < b := dt st 0
  rw [show IntKind.i64.wrap ((ms.length : Int) - 1) = (ms.length : Int) - 1 from wrap_i64 (by omega) (by omega)] at f19
  have f20 : ¬ (b < 0) := df st 1
  have f21 : ¬ ((IntKind.wrap .i64 ((ms.length : Int) - 1)) < a) := df st 2
  rw [show IntKind.i64.wrap ((ms.length : Int) - 1) = (ms.length : Int) - 1 from wrap_i64 (by omega) (by omega)] at f21
  have f22 : ¬ (a < 0) := df st 3
  have f23 : (okG ms ks) = true := bf st 4
  have hok := f23
  have hlen0 := okG_lenA hok
  refine res_ex (by kernel_rfl) (end_flat st.inn hE (.inr rfl) (a := .tuple [.int .i64 0, .int .i64 2]) (by kernel_rfl) (Grew.trans g10 (gk st)) rfl ⟨?_, rfl⟩)
  unfold apartG; rw [if_pos f23, if_neg hno]
 ·
  intro vs ls H24 E24 st hE
  have f25 : ¬ ((IntKind.wrap .i64 ((ms.length : Int) - 1)) < b) := df st 0
  rw [show IntKind.i64.wrap ((ms.length : Int) - 1) = (ms.length : Int) - 1 from wrap_i64 (by omega) (by omega)] at f25
  have f26 : ¬ (b < 0) := df st 1
  have f27 : ¬ ((IntKind.wrap .i64 ((ms.length : Int) - 1)) < a) := df st 2
  rw [show IntKind.i64.wrap ((ms.length : Int) - 1) = (ms.length : Int) - 1 from wrap_i64 (by omega) (by omega)] at f27
  have f28 : ¬ (a < 0) := df st 3
  have f29 : (okG ms ks) = true := bf st 4
  have hok := f29
  have hlen0 := okG_lenA hok
  clear st hE vs ls
  exact absurd ⟨⟨by omega, by omega⟩, by omega, by omega⟩ hno
 ·
  intro vs ls H38 E38 st hE
  have f39 : b < 0 := dt st 0
  have f40 : ¬ ((IntKind.wrap .i64 ((ms.length : Int) - 1)) < a) := df st 1
  rw [show IntKind.i64.wrap ((ms.length : Int) - 1) = (ms.length : Int) - 1 from wrap_i64 (by omega) (by omega)] at f40
  have f41 : ¬ (a < 0) := df st 2
  have f42 : (okG ms ks) = true := bf st 3
  have hok := f42
  have hlen0 := okG_lenA hok
  refine res_ex (by kernel_rfl) (end_flat st.inn hE (.inr rfl) (a := .tuple [.int .i64 0, .int .i64 2]) (by kernel_rfl) (Grew.trans g10 (gk st)) rfl ⟨?_, rfl⟩)
  unfold apartG; rw [if_pos f42, if_neg hno]
 ·
  intro vs ls H43 E43 st hE
  have f44 : a < 0 := dt st 0
  have f45 : (okG ms ks) = true := bf st 1
  have hok := f45
  have hlen0 := okG_lenA hok
  refine res_ex (by kernel_rfl) (end_flat st.inn hE (.inr rfl) (a := .tuple [.int .i64 0, .int .i64 2]) (by kernel_rfl) (Grew.trans g10 (gk st)) rfl ⟨?_, rfl⟩)
  unfold apartG; rw [if_pos f45, if_neg hno]
theorem k_spec_LinksApart (H : AHeap) (ms : List (List AV)) (hr : Recs KP ms) (S : AV) (hS : SlL H 3 ms S) (hmx : ms.length < 2 ^ 40) (ks : List (List AV)) (hrk : Recs KL ks) (Sk : AV) (hSk : SlL H 6 ks Sk) (hmxk : ks.length < 2 ^ 40) (a b : Int) : APure Try.prog 32 [.agg [S, Sk], .int .i64 a, .int .i64 b] H (.tuple [.int .i64 (apartG ms ks a b).1, .int .i64 (apartG ms ks a b).2]) := by
 by_cases h : (0 ≤ a ∧ a < ms.length) ∧ 0 ≤ b ∧ b < ms.length
 ·
  obtain ⟨a, rfl⟩ : ∃ k : Nat, a = (k : Int) := ⟨a.toNat, by omega⟩
  obtain ⟨b, rfl⟩ : ∃ k : Nat, b = (k : Int) := ⟨b.toNat, by omega⟩
  exact k_spec_Apart1 H ms hr S hS hmx ks hrk Sk hSk hmxk a b (by omega) (by omega)
 ·
  exact k_spec_Apart0 H ms hr S hS hmx ks hrk Sk hSk hmxk a b h
end Go.Proofs.Ytcmoeocemmeofaa
