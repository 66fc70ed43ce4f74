/- Contracts: neighbours merged, by the library. -/
import Derived.Test.YtnleibiniajbnaaTSrtC
import Derived.Test.YtnleibiniajbnaaSxE
set_option linter.unusedVariables false
set_option linter.unusedSimpArgs false
namespace Go.Proofs.Ytnleibiniajbnaa
open Go.Ab
set_option maxRecDepth 100000
set_option maxHeartbeats 1000000
attribute [local irreducible] Res
theorem half_word (i j : Nat) (h : i + j < 2 ^ 40) : IntKind.wrap .i64 (Int.fdiv (IntKind.wrap .u64 (IntKind.wrap .i64 ((i : Int) + (j : Int)))) (2 ^ (min (Int.toNat 1) (IntKind.bits .u64)))) = (((i + j) / 2 : Nat) : Int) := by
 have h1 : IntKind.wrap .i64 ((i : Int) + (j : Int)) = ((i + j : Nat) : Int) := by rw [wrap_i64 om om]; push_cast; rfl
 have h2 : IntKind.wrap .u64 ((i + j : Nat) : Int) = ((i + j : Nat) : Int) := by
  simp only [IntKind.wrap]
  show ((i + j : Nat) : Int) % 18446744073709551616 = _
  omega
 rw [h1, h2]
 show IntKind.wrap .i64 (Int.fdiv ((i + j : Nat) : Int) 2) = _
 rw [Int.fdiv_eq_ediv_of_nonneg _ (by decide), wrap_i64 om om]
 omega
def tbS : List (Nat × AFun) := tb.filter fun p => !(p.1 == 130 || p.1 == 137 || p.1 == 129 || p.1 == 116)
theorem tbS_ok : TbOk Try.prog tbS := fun f a h => tb_ok f a (List.mem_filter.1 h).1
def pmS (fl : Nat) (ru : List (RK × SV)) (un : Nat) : Pm := ⟨fl, ru, tbS, ap, un⟩
def SymP (N : Nat) : Prop := ∀ (H : AHeap) (L0 : List (List AV)) (hr : Recs KR L0) (S : AV) (hS : SlF H 4 L0 S) (hmx : L0.length < 2 ^ 20) (a m b : Nat) (_ : a < m) (_ : m < b) (_ : b ≤ L0.length) (_ : b - a ≤ N) (_ : Srt a m L0) (_ : Srt m b L0), ACalls Try.prog 130 [S, .int .i64 (a : Int), .int .i64 (m : Int), .int .i64 (b : Int), .func 87 [] []] H fun r H' => r = .tuple [] ∧ OnlyS S H H' ∧ ∃ M, SlF H' 4 M S ∧ Recs KR M ∧ St a b L0 M ∧ Srt a b M
theorem k_symS {N : Nat} (ih : SymP N) : SymP (N + 1) := by
 intro H L0 hr S hS hmx a m b ham hmb hbl hN hs1 hs2
 refine res_start h_slices_symMergeCmpFunc_impl_Reading (by simp) ?_
 refine res_join 6 (fun E H' => ∃ (mid1 : Nat) (nn1 : Nat) (s1 : Nat) (r1 : Nat) (p1 : Nat), E 0 = S ∧ E 1 = .int .i64 (a : Int) ∧ E 2 = .int .i64 (m : Int) ∧ E 3 = .int .i64 (b : Int) ∧ E 4 = .func 87 [] [] ∧ E 18 = .int .i64 (mid1 : Int) ∧ E 19 = .int .i64 (nn1 : Int) ∧ E 20 = .int .i64 (s1 : Int) ∧ E 21 = .int .i64 (r1 : Int) ∧ E 22 = .int .i64 (p1 : Int) ∧ OnlyS S H H' ∧ SlF H' 4 L0 S ∧ mid1 = (a + b) / 2 ∧ nn1 = mid1 + m ∧ p1 + 1 = nn1 ∧ ((mid1 < m ∧ s1 + b = nn1 ∧ r1 = mid1) ∨ (m ≤ mid1 ∧ s1 = a ∧ r1 = m))) kr ?_ ?_
 ·
  have q2 : KdsL [.one, KI, KI, KI] [S, .int .i64 (a : Int), .int .i64 (m : Int), .int .i64 (b : Int)] := kL
  refine run_mc (φ := φ0) (pm := pmS 0 [] 0) 20 (ws := []) (env := [(0, n1 0), (1, nI 1), (2, nI 2), (3, nI 3), (4, .fn 87 [] [])]) q2 .nil (sepOk_ro rfl) .nil (eC q2 (.cons (t := 0) rfl (.cons (t := 1) rfl (.cons (t := 2) rfl (.cons (t := 3) rfl (.cons (t := 4) rfl .nil)))))) tbS_ok ap_ok ?_
  refine all4 kr ?_ ?_ ?_ ?_
  ·
   intro vs ls H3 E3 st hE
   have f4 : (IntKind.wrap .i64 ((m : Int) - (a : Int))) = 1 := dt st 0
   rw [show (IntKind.wrap .i64 ((m : Int) - (a : Int))) = (m : Int) - (a : Int) from wrap_i64 om om] at f4
   have b5 := eo st hE 10 (.int .i64 (m : Int))
   have b6 := eo st hE 11 (.int .i64 (b : Int))
   have b7 := eo st hE 4 (.func 87 [] [])
   have b8 := eo st hE 0 S
   have b9 := eo st hE 1 (.int .i64 (a : Int))
   have b10 := eo st hE 3 (.int .i64 (b : Int))
   have b11 := eo st hE 2 (.int .i64 (m : Int))
   have g12 : Grew H H3 := (gk st)
   have g13 : OnlyS S H H3 := (OnlyS.of_grew (Grew.refl H)).grewR g12
   have s14 := hS.grew g12
   refine res_loop kr (fun z E H' => ∃ (i15 : Nat) (j15 : Nat), z = j15 - i15 ∧ E 4 = .func 87 [] [] ∧ E 0 = S ∧ E 1 = .int .i64 (a : Int) ∧ E 3 = .int .i64 (b : Int) ∧ E 2 = .int .i64 (m : Int) ∧ E 10 = .int .i64 (i15 : Int) ∧ E 11 = .int .i64 (j15 : Int) ∧ OnlyS S H H' ∧ SlF H' 4 L0 S ∧ m ≤ i15 ∧ i15 ≤ j15 ∧ j15 ≤ b ∧ (i15 = m ∨ tmR L0 (i15 - 1) < tmR L0 a) ∧ (j15 = b ∨ tmR L0 a ≤ tmR L0 j15)) (b - m) ⟨m, b, rfl, b7, b8, b9, b10, b11, b5, b6, g13, s14, ⟨by omega, by omega, by omega, .inl om, .inl om⟩⟩ ?_
   rintro z15 E15 Hx15 ⟨i15, j15, hz15, c15_4, c15_0, c15_1, c15_3, c15_2, cv15_10, cv15_11, gt15, sp15_0, iv15⟩
   have hivi15 := iv15
   obtain ⟨hi1i15, hi2i15, hi3i15, _, _⟩ := iv15
   have q16 := q2.app (kL : KdsL [KI, KI] [.int .i64 (i15 : Int), .int .i64 (j15 : Int)])
   refine run_mc (φ := φ0) (pm := pmS 0 [] 0) 20 (ws := []) (env := [(4, .fn 87 [] []), (0, n1 0), (1, nI 1), (3, nI 3), (2, nI 2), (10, nI 4), (11, nI 5)]) q16 .nil (sepOk_ro rfl) .nil (eC q16 (.cons c15_4 (.cons c15_0 (.cons c15_1 (.cons c15_3 (.cons c15_2 (.cons cv15_10 (.cons cv15_11 .nil)))))))) tbS_ok ap_ok ?_
   refine all2 kr ?_ ?_
   ·
    intro vs ls H17 E17 st hE
    have f18 : (i15 : Int) < (j15 : Int) := dt st 0
    obtain ⟨w20, hw20⟩ : ∃ z, z = (IntKind.wrap .i64 (Int.fdiv (IntKind.wrap .u64 (IntKind.wrap .i64 ((i15 : Int) + (j15 : Int)))) (2 ^ (min (Int.toNat 1) (IntKind.bits .u64))))) := ⟨_, rfl⟩
    have b21 : E17 42 = .int .i64 w20 := by rw [hw20]; exact eo st hE 42 _
    have b25 : E17 12 = .int .i64 w20 := by rw [hw20]; exact eo st hE 12 _
    have B1 := es st hE [(41, S), (0, S), (1, .int .i64 (a : Int)), (40, .func 87 [] []), (4, .func 87 [] []), (2, .int .i64 (m : Int)), (3, .int .i64 (b : Int)), (10, .int .i64 (i15 : Int)), (11, .int .i64 (j15 : Int))]
    have g32 : Grew Hx15 H17 := (gk st)
    have g33 : OnlyS S H H17 := gt15.grewR g32
    have s34 := sp15_0.grew g32
    have nw20 : w20 = (((i15 + j15) / 2 : Nat) : Int) := by
     rw [hw20, half_word i15 j15 om]
    obtain ⟨k35, rfl⟩ : ∃ k : Nat, w20 = (k : Int) := ⟨Int.toNat w20, by omega⟩
    have hlt36 : k35 < L0.length := by omega
    obtain ⟨lS36, cap36, rest36, wr36, eS36, gS36⟩ := (s34.toL).isSl hlt36
    obtain ⟨v36_0, v36_1, v36_2, v36_3, hm36⟩ := partsReading (hr.get hlt36)
    have he36 : L0.getD k35 [] = [.int .i64 v36_0, .int .i16 v36_1, .int .i16 v36_2, .int .i16 v36_3] := by rw [← hm36, List.getD_eq_getElem?_getD, List.getElem?_eq_getElem hlt36]; rfl
    have q37 := q16.app (kL : KdsL [KI, KI, .int .i16, .int .i16, .int .i16] [.int .i64 (k35 : Int), .int .i64 v36_0, .int .i16 v36_1, .int .i16 v36_2, .int .i16 v36_3])
    refine run_mc (φ := φ0) (pm := pmS 1 [(.ia 4 (n1 0) (nI 6), .ptr 0 0)] 0) 20 (ws := [⟨lS36, (k35 * 4), [nI 7, .nd 8 (.int .i16), .nd 9 (.int .i16), .nd 10 (.int .i16)], false⟩]) (env := [(41, n1 0), (0, n1 0), (1, nI 1), (40, .fn 87 [] []), (4, .fn 87 [] []), (2, nI 2), (3, nI 3), (10, nI 4), (11, nI 5), (42, nI 6), (12, nI 6)]) q37 (.cons (win_elem hr gS36 hlt36 rfl (by rw [hm36]; exact (dL q37))) .nil) (sepOk_ro rfl) (.cons (rule_iaS (k := k35) (dE q37) eS36 (dE q37) hlt36 rfl) .nil) (eC q37 (sc B1 (.cons b21 (.cons b25 .nil)))) tbS_ok ap_ok ?_
    refine all1 kr fun vs ls H38 E38 st hE => ?_
    have B2 := es st hE [(45, S), (46, .int .i64 (a : Int)), (40, .func 87 [] []), (44, .agg [.int .i64 v36_0, .int .i16 v36_1, .int .i16 v36_2, .int .i16 v36_3]), (12, .int .i64 (k35 : Int)), (4, .func 87 [] []), (0, S), (2, .int .i64 (m : Int)), (1, .int .i64 (a : Int)), (3, .int .i64 (b : Int)), (10, .int .i64 (i15 : Int)), (11, .int .i64 (j15 : Int))]
    have g52 : Grew H17 H38 := (gk st)
    have g53 : OnlyS S H H38 := g33.grewR g52
    have s55 := s34.grew g52
    have hlt56 : a < L0.length := by omega
    obtain ⟨lS56, cap56, rest56, wr56, eS56, gS56⟩ := (s55.toL).isSl hlt56
    obtain ⟨v56_0, v56_1, v56_2, v56_3, hm56⟩ := partsReading (hr.get hlt56)
    have he56 : L0.getD a [] = [.int .i64 v56_0, .int .i16 v56_1, .int .i16 v56_2, .int .i16 v56_3] := by rw [← hm56, List.getD_eq_getElem?_getD, List.getElem?_eq_getElem hlt56]; rfl
    have q57 := q37.app (kL : KdsL [KI, .int .i16, .int .i16, .int .i16] [.int .i64 v56_0, .int .i16 v56_1, .int .i16 v56_2, .int .i16 v56_3])
    refine run_mc (φ := φ0) (pm := pmS 1 [(.ia 4 (n1 0) (nI 1), .ptr 0 0)] 0) 20 (ws := [⟨lS56, (a * 4), [nI 11, .nd 12 (.int .i16), .nd 13 (.int .i16), .nd 14 (.int .i16)], false⟩]) (env := [(45, n1 0), (46, nI 1), (40, .fn 87 [] []), (44, .agg [nI 7, .nd 8 (.int .i16), .nd 9 (.int .i16), .nd 10 (.int .i16)]), (12, nI 6), (4, .fn 87 [] []), (0, n1 0), (2, nI 2), (1, nI 1), (3, nI 3), (10, nI 4), (11, nI 5)]) q57 (.cons (win_elem hr gS56 hlt56 rfl (by rw [hm56]; exact (dL q57))) .nil) (sepOk_ro rfl) (.cons (rule_iaS (k := a) (dE q57) eS56 (dE q57) hlt56 rfl) .nil) (eC q57 B2) tbS_ok ap_ok ?_
    refine all3 kr ?_ ?_ ?_
    ·
     intro vs ls H58 E58 st hE
     have f59 : v36_0 < v56_0 := dt st 0
     obtain ⟨w60, hw60⟩ : ∃ z, z = (IntKind.wrap .i64 ((k35 : Int) + 1)) := ⟨_, rfl⟩
     have b61 : E58 10 = .int .i64 w60 := by rw [hw60]; exact eo st hE 10 _
     have b62 := eo st hE 11 (.int .i64 (j15 : Int))
     have b63 := eo st hE 4 (.func 87 [] [])
     have b64 := eo st hE 0 S
     have b65 := eo st hE 1 (.int .i64 (a : Int))
     have b66 := eo st hE 3 (.int .i64 (b : Int))
     have b67 := eo st hE 2 (.int .i64 (m : Int))
     have g68 : Grew H38 H58 := (gk st)
     have g69 : OnlyS S H H58 := g53.grewR g68
     have s71 := s55.grew g68
     have nw60 : w60 = ((k35 : Int) + 1) := by
      rw [hw60]
      rw [show (IntKind.wrap .i64 ((k35 : Int) + 1)) = (k35 : Int) + 1 from wrap_i64 om om]
     obtain ⟨k72, hk72⟩ : ∃ k : Nat, w60 = (k : Int) := ⟨Int.toNat w60, by omega⟩
     have tm36 : tmR L0 k35 = v36_0 := by unfold tmR; rw [he36]; rfl
     have tm56 : tmR L0 a = v56_0 := by unfold tmR; rw [he56]; rfl
     have hm9 : j15 - k72 < z15 := by omega
     exact res_norm kr ⟨j15 - k72, hm9, k72, j15, rfl, b63, b64, b65, b66, b67, (b61.trans (by rw [hk72])), b62, g69, s71, ⟨by omega, by omega, by omega, .inr (by rw [show k72 - 1 = k35 by omega]; omega), hivi15.2.2.2.2⟩⟩
    ·
     intro vs ls H73 E73 st hE
     have f74 : v56_0 < v36_0 := dt st 0
     have f75 : ¬ (v36_0 < v56_0) := df st 1
     have b76 := eo st hE 10 (.int .i64 (i15 : Int))
     have b77 := eo st hE 11 (.int .i64 (k35 : Int))
     have b78 := eo st hE 4 (.func 87 [] [])
     have b79 := eo st hE 0 S
     have b80 := eo st hE 1 (.int .i64 (a : Int))
     have b81 := eo st hE 3 (.int .i64 (b : Int))
     have b82 := eo st hE 2 (.int .i64 (m : Int))
     have g83 : Grew H38 H73 := (gk st)
     have g84 : OnlyS S H H73 := g53.grewR g83
     have s86 := s55.grew g83
     have tm36 : tmR L0 k35 = v36_0 := by unfold tmR; rw [he36]; rfl
     have tm56 : tmR L0 a = v56_0 := by unfold tmR; rw [he56]; rfl
     have hm9 : k35 - i15 < z15 := by omega
     exact res_norm kr ⟨k35 - i15, hm9, i15, k35, rfl, b78, b79, b80, b81, b82, b76, b77, g84, s86, ⟨by omega, by omega, by omega, hivi15.2.2.2.1, .inr (by rw [show k35 = k35 by omega]; omega)⟩⟩
    ·
     intro vs ls H87 E87 st hE
     have f88 : ¬ (v56_0 < v36_0) := df st 0
     have f89 : ¬ (v36_0 < v56_0) := df st 1
     have b90 := eo st hE 10 (.int .i64 (i15 : Int))
     have b91 := eo st hE 11 (.int .i64 (k35 : Int))
     have b92 := eo st hE 4 (.func 87 [] [])
     have b93 := eo st hE 0 S
     have b94 := eo st hE 1 (.int .i64 (a : Int))
     have b95 := eo st hE 3 (.int .i64 (b : Int))
     have b96 := eo st hE 2 (.int .i64 (m : Int))
     have g97 : Grew H38 H87 := (gk st)
     have g98 : OnlyS S H H87 := g53.grewR g97
     have s100 := s55.grew g97
     have tm36 : tmR L0 k35 = v36_0 := by unfold tmR; rw [he36]; rfl
     have tm56 : tmR L0 a = v56_0 := by unfold tmR; rw [he56]; rfl
     have hm9 : k35 - i15 < z15 := by omega
     exact res_norm kr ⟨k35 - i15, hm9, i15, k35, rfl, b92, b93, b94, b95, b96, b90, b91, g98, s100, ⟨by omega, by omega, by omega, hivi15.2.2.2.1, .inr (by rw [show k35 = k35 by omega]; omega)⟩⟩
   ·
    intro vs ls H101 E101 st hE
    have f102 : ¬ ((i15 : Int) < (j15 : Int)) := df st 0
    obtain ⟨w107, hw107⟩ : ∃ z, z = (decide ((i15 : Int) < (j15 : Int))) := ⟨_, rfl⟩
    have b108 : E101 33 = .bool w107 := by rw [hw107]; exact eo st hE 33 _
    have B3 := es st hE [(10, .int .i64 (i15 : Int)), (11, .int .i64 (j15 : Int)), (31, .int .i64 (i15 : Int)), (32, .int .i64 (j15 : Int)), (4, .func 87 [] []), (0, S), (1, .int .i64 (a : Int)), (3, .int .i64 (b : Int)), (2, .int .i64 (m : Int))]
    have g114 : Grew Hx15 H101 := (gk st)
    have g115 : OnlyS S H H101 := gt15.grewR g114
    have s116 := sp15_0.grew g114
    refine res_exit (id := 0) kr ?_
    have q117 := q16.app (kL : KdsL [.bool] [.bool w107])
    refine run_mc (φ := φ0) (pm := pmS 0 [] 0) 20 (ws := []) (env := [(10, nI 4), (11, nI 5), (31, nI 4), (32, nI 5), (4, .fn 87 [] []), (0, n1 0), (1, nI 1), (3, nI 3), (2, nI 2), (33, nB 6)]) q117 .nil (sepOk_ro rfl) .nil (eC q117 (sc B3 (.cons b108 .nil))) tbS_ok ap_ok ?_
    refine all1 kr fun vs ls H118 E118 st hE => ?_
    have b119 := eo st hE 13 (.int .i64 (a : Int))
    have b120 := eo st hE 10 (.int .i64 (i15 : Int))
    have b121 := eo st hE 0 S
    have b122 := eo st hE 3 (.int .i64 (b : Int))
    have b123 := eo st hE 2 (.int .i64 (m : Int))
    have b124 := eo st hE 1 (.int .i64 (a : Int))
    have b125 := eo st hE 4 (.func 87 [] [])
    have g126 : Grew H101 H118 := (gk st)
    have g127 : OnlyS S H H118 := g115.grewR g126
    have s128 := s116.grew g126
    refine res_loop kr (fun z E H' => ∃ (k129 : Nat) (L129 : List (List AV)), z = m + b - k129 ∧ E 10 = .int .i64 (i15 : Int) ∧ E 0 = S ∧ E 3 = .int .i64 (b : Int) ∧ E 2 = .int .i64 (m : Int) ∧ E 1 = .int .i64 (a : Int) ∧ E 4 = .func 87 [] [] ∧ E 13 = .int .i64 (k129 : Int) ∧ OnlyS S H H' ∧ SlF H' 4 L129 S ∧ Recs KR L129 ∧ a ≤ k129 ∧ k129 + 1 ≤ i15 ∧ L129 = rot L0 a m (k129 + 1)) (m + b - a) ⟨a, L0, rfl, b120, b121, b122, b123, b124, b125, b119, g127, s128, hr, ⟨by omega, by omega, by rw [show a + 1 = m by omega]; exact (rot_triv2 om om).symm⟩⟩ ?_
    rintro z129 E129 Hx129 ⟨k129, L129, hz129, c129_10, c129_0, c129_3, c129_2, c129_1, c129_4, cv129_13, gt129, so129_0, hr129_0, iv129⟩
    obtain ⟨hk1k129, hk2k129, hrtk129⟩ := iv129
    have hlk129 : L129.length = L0.length := by rw [hrtk129]; exact rot_len om om om
    have q130 := q117.app (kL : KdsL [KI] [.int .i64 (k129 : Int)])
    refine run_mc (φ := φ0) (pm := pmS 0 [] 0) 20 (ws := []) (env := [(10, nI 4), (0, n1 0), (3, nI 3), (2, nI 2), (1, nI 1), (4, .fn 87 [] []), (13, nI 7)]) q130 .nil (sepOk_ro rfl) .nil (eC q130 (.cons c129_10 (.cons c129_0 (.cons c129_3 (.cons c129_2 (.cons c129_1 (.cons c129_4 (.cons cv129_13 .nil)))))))) tbS_ok ap_ok ?_
    refine all2 kr ?_ ?_
    ·
     intro vs ls H131 E131 st hE
     have f132 : (k129 : Int) < (IntKind.wrap .i64 ((i15 : Int) - 1)) := dt st 0
     rw [show (IntKind.wrap .i64 ((i15 : Int) - 1)) = (i15 : Int) - 1 from wrap_i64 om om] at f132
     obtain ⟨w134, hw134⟩ : ∃ z, z = (IntKind.wrap .i64 ((k129 : Int) + 1)) := ⟨_, rfl⟩
     have b135 : E131 68 = .int .i64 w134 := by rw [hw134]; exact eo st hE 68 _
     have b141 : E131 65 = .int .i64 w134 := by rw [hw134]; exact eo st hE 65 _
     have B4 := es st hE [(66, S), (0, S), (13, .int .i64 (k129 : Int)), (61, S), (62, .int .i64 (k129 : Int)), (63, S), (4, .func 87 [] []), (2, .int .i64 (m : Int)), (1, .int .i64 (a : Int)), (3, .int .i64 (b : Int)), (10, .int .i64 (i15 : Int))]
     have g147 : Grew Hx129 H131 := (gk st)
     have g148 : OnlyS S H H131 := gt129.grewR g147
     have s149 := so129_0.grew g147
     have nw134 : w134 = ((k129 : Int) + 1) := by
      rw [hw134]
      rw [show (IntKind.wrap .i64 ((k129 : Int) + 1)) = (k129 : Int) + 1 from wrap_i64 om om]
     obtain ⟨k150, rfl⟩ : ∃ k : Nat, w134 = (k : Int) := ⟨Int.toNat w134, by omega⟩
     have hlt151 : k150 < L129.length := by omega
     obtain ⟨lS151, cap151, rest151, wr151, eS151, gS151⟩ := (s149.toL).isSl hlt151
     obtain ⟨v151_0, v151_1, v151_2, v151_3, hm151⟩ := partsReading (hr129_0.get hlt151)
     have he151 : L129.getD k150 [] = [.int .i64 v151_0, .int .i16 v151_1, .int .i16 v151_2, .int .i16 v151_3] := by rw [← hm151, List.getD_eq_getElem?_getD, List.getElem?_eq_getElem hlt151]; rfl
     have q152 := q130.app (kL : KdsL [KI, KI, .int .i16, .int .i16, .int .i16] [.int .i64 (k150 : Int), .int .i64 v151_0, .int .i16 v151_1, .int .i16 v151_2, .int .i16 v151_3])
     refine run_mc (φ := φ0) (pm := pmS 1 [(.ia 4 (n1 0) (nI 8), .ptr 0 0)] 0) 20 (ws := [⟨lS151, (k150 * 4), [nI 9, .nd 10 (.int .i16), .nd 11 (.int .i16), .nd 12 (.int .i16)], false⟩]) (env := [(66, n1 0), (0, n1 0), (13, nI 7), (61, n1 0), (62, nI 7), (63, n1 0), (4, .fn 87 [] []), (2, nI 2), (1, nI 1), (3, nI 3), (10, nI 4), (68, nI 8), (65, nI 8)]) q152 (.cons (win_elem hr129_0 gS151 hlt151 rfl (by rw [hm151]; exact (dL q152))) .nil) (sepOk_ro rfl) (.cons (rule_iaS (k := k150) (dE q152) eS151 (dE q152) hlt151 rfl) .nil) (eC q152 (sc B4 (.cons b135 (.cons b141 .nil)))) tbS_ok ap_ok ?_
     refine all1 kr fun vs ls H153 E153 st hE => ?_
     have B5 := es st hE [(71, S), (72, .int .i64 (k129 : Int)), (61, S), (62, .int .i64 (k129 : Int)), (70, .agg [.int .i64 v151_0, .int .i16 v151_1, .int .i16 v151_2, .int .i16 v151_3]), (63, S), (65, .int .i64 (k150 : Int)), (13, .int .i64 (k129 : Int)), (4, .func 87 [] []), (0, S), (2, .int .i64 (m : Int)), (1, .int .i64 (a : Int)), (3, .int .i64 (b : Int)), (10, .int .i64 (i15 : Int))]
     have g168 : Grew H131 H153 := (gk st)
     have g169 : OnlyS S H H153 := g148.grewR g168
     have s171 := s149.grew g168
     have hlt172 : k129 < L129.length := by omega
     obtain ⟨lS172, cap172, rest172, wr172, eS172, gS172⟩ := (s171.toL).isSl hlt172
     obtain ⟨v172_0, v172_1, v172_2, v172_3, hm172⟩ := partsReading (hr129_0.get hlt172)
     have he172 : L129.getD k129 [] = [.int .i64 v172_0, .int .i16 v172_1, .int .i16 v172_2, .int .i16 v172_3] := by rw [← hm172, List.getD_eq_getElem?_getD, List.getElem?_eq_getElem hlt172]; rfl
     have q173 := q152.app (kL : KdsL [KI, .int .i16, .int .i16, .int .i16] [.int .i64 v172_0, .int .i16 v172_1, .int .i16 v172_2, .int .i16 v172_3])
     refine run_mc (φ := φ0) (pm := pmS 1 [(.ia 4 (n1 0) (nI 7), .ptr 0 0)] 0) 20 (ws := [⟨lS172, (k129 * 4), [nI 13, .nd 14 (.int .i16), .nd 15 (.int .i16), .nd 16 (.int .i16)], false⟩]) (env := [(71, n1 0), (72, nI 7), (61, n1 0), (62, nI 7), (70, .agg [nI 9, .nd 10 (.int .i16), .nd 11 (.int .i16), .nd 12 (.int .i16)]), (63, n1 0), (65, nI 8), (13, nI 7), (4, .fn 87 [] []), (0, n1 0), (2, nI 2), (1, nI 1), (3, nI 3), (10, nI 4)]) q173 (.cons (win_elem hr129_0 gS172 hlt172 rfl (by rw [hm172]; exact (dL q173))) .nil) (sepOk_ro rfl) (.cons (rule_iaS (k := k129) (dE q173) eS172 (dE q173) hlt172 rfl) .nil) (eC q173 B5) tbS_ok ap_ok ?_
     refine all1 kr fun vs ls H174 E174 st hE => ?_
     have b175 := eo st hE 75 (.ptr lS172 ((k129 * 4) + 0))
     have b176 := eo st hE 70 (.agg [.int .i64 v151_0, .int .i16 v151_1, .int .i16 v151_2, .int .i16 v151_3])
     have B6 := es st hE [(70, .agg [.int .i64 v151_0, .int .i16 v151_1, .int .i16 v151_2, .int .i16 v151_3]), (63, S), (65, .int .i64 (k150 : Int)), (74, .agg [.int .i64 v172_0, .int .i16 v172_1, .int .i16 v172_2, .int .i16 v172_3]), (13, .int .i64 (k129 : Int)), (4, .func 87 [] []), (0, S), (2, .int .i64 (m : Int)), (1, .int .i64 (a : Int)), (3, .int .i64 (b : Int)), (10, .int .i64 (i15 : Int))]
     have g187 : Grew H153 H174 := (gk st)
     have g188 : OnlyS S H H174 := g169.grewR g187
     have s190 := s171.grew g187
     refine res_storeSFK (d := none) (n := 4) (x := .tmp 75) (y := .tmp 70) kr (S := S) (ms := L129) (k := k129) (m' := [.int .i64 v151_0, .int .i16 v151_1, .int .i16 v151_2, .int .i16 v151_3]) (s190) eS172 b175 hlt172 hr129_0.len (by show AV.cells (E174 70) = _; rw [b176]; rfl) rfl rfl rfl ?_
     intro H191 s191 oo191
     have hln191 : (L129.set k129 [.int .i64 v151_0, .int .i16 v151_1, .int .i16 v151_2, .int .i16 v151_3]).length = L129.length := by simp
     have g192 : OnlyS S H H191 := g188.trans oo191
     refine run_mc (φ := φ0) (pm := pmS 0 [] 0) 20 (ws := []) (env := [(70, .agg [nI 9, .nd 10 (.int .i16), .nd 11 (.int .i16), .nd 12 (.int .i16)]), (63, n1 0), (65, nI 8), (74, .agg [nI 13, .nd 14 (.int .i16), .nd 15 (.int .i16), .nd 16 (.int .i16)]), (13, nI 7), (4, .fn 87 [] []), (0, n1 0), (2, nI 2), (1, nI 1), (3, nI 3), (10, nI 4)]) q173 .nil (sepOk_ro rfl) .nil (eC q173 (sn B6)) tbS_ok ap_ok ?_
     refine all1 kr fun vs ls H194 E194 st hE => ?_
     have B7 := es st hE [(63, S), (65, .int .i64 (k150 : Int)), (74, .agg [.int .i64 v172_0, .int .i16 v172_1, .int .i16 v172_2, .int .i16 v172_3]), (13, .int .i64 (k129 : Int)), (4, .func 87 [] []), (0, S), (2, .int .i64 (m : Int)), (1, .int .i64 (a : Int)), (3, .int .i64 (b : Int)), (10, .int .i64 (i15 : Int))]
     have g205 : Grew H191 H194 := (gk st)
     have g206 : OnlyS S H H194 := g192.grewR g205
     have s207 := s191.grew g205
     have hlt208 : k150 < (L129.set k129 [.int .i64 v151_0, .int .i16 v151_1, .int .i16 v151_2, .int .i16 v151_3]).length := by omega
     obtain ⟨lS208, cap208, rest208, wr208, eS208, gS208⟩ := (s207.toL).isSl hlt208
     obtain ⟨v208_0, v208_1, v208_2, v208_3, hm208⟩ := partsReading ((Recs.set hr129_0 (.cons kA (.cons kA (.cons kA (.cons kA .nil))))).get hlt208)
     have he208 : (L129.set k129 [.int .i64 v151_0, .int .i16 v151_1, .int .i16 v151_2, .int .i16 v151_3]).getD k150 [] = [.int .i64 v208_0, .int .i16 v208_1, .int .i16 v208_2, .int .i16 v208_3] := by rw [← hm208, List.getD_eq_getElem?_getD, List.getElem?_eq_getElem hlt208]; rfl
     have q209 := q173.app (kL : KdsL [KI, .int .i16, .int .i16, .int .i16] [.int .i64 v208_0, .int .i16 v208_1, .int .i16 v208_2, .int .i16 v208_3])
     refine run_mc (φ := φ0) (pm := pmS 1 [(.ia 4 (n1 0) (nI 8), .ptr 0 0)] 0) 20 (ws := [⟨lS208, (k150 * 4), [nI 17, .nd 18 (.int .i16), .nd 19 (.int .i16), .nd 20 (.int .i16)], false⟩]) (env := [(63, n1 0), (65, nI 8), (74, .agg [nI 13, .nd 14 (.int .i16), .nd 15 (.int .i16), .nd 16 (.int .i16)]), (13, nI 7), (4, .fn 87 [] []), (0, n1 0), (2, nI 2), (1, nI 1), (3, nI 3), (10, nI 4)]) q209 (.cons (win_elem (Recs.set hr129_0 (.cons kA (.cons kA (.cons kA (.cons kA .nil))))) gS208 hlt208 rfl (by rw [hm208]; exact (dL q209))) .nil) (sepOk_ro rfl) (.cons (rule_iaS (k := k150) (dE q209) eS208 (dE q209) hlt208 rfl) .nil) (eC q209 B7) tbS_ok ap_ok ?_
     refine all1 kr fun vs ls H210 E210 st hE => ?_
     have b211 := eo st hE 76 (.ptr lS208 ((k150 * 4) + 0))
     have b212 := eo st hE 74 (.agg [.int .i64 v172_0, .int .i16 v172_1, .int .i16 v172_2, .int .i16 v172_3])
     have B8 := es st hE [(74, .agg [.int .i64 v172_0, .int .i16 v172_1, .int .i16 v172_2, .int .i16 v172_3]), (13, .int .i64 (k129 : Int)), (4, .func 87 [] []), (0, S), (2, .int .i64 (m : Int)), (1, .int .i64 (a : Int)), (3, .int .i64 (b : Int)), (10, .int .i64 (i15 : Int))]
     have g220 : Grew H194 H210 := (gk st)
     have g221 : OnlyS S H H210 := g206.grewR g220
     have s223 := s207.grew g220
     refine res_storeSFK (d := none) (n := 4) (x := .tmp 76) (y := .tmp 74) kr (S := S) (ms := (L129.set k129 [.int .i64 v151_0, .int .i16 v151_1, .int .i16 v151_2, .int .i16 v151_3])) (k := k150) (m' := [.int .i64 v172_0, .int .i16 v172_1, .int .i16 v172_2, .int .i16 v172_3]) (s223) eS208 b211 hlt208 (Recs.set hr129_0 (.cons kA (.cons kA (.cons kA (.cons kA .nil))))).len (by show AV.cells (E210 74) = _; rw [b212]; rfl) rfl rfl rfl ?_
     intro H224 s224 oo224
     have hln224 : ((L129.set k129 [.int .i64 v151_0, .int .i16 v151_1, .int .i16 v151_2, .int .i16 v151_3]).set k150 [.int .i64 v172_0, .int .i16 v172_1, .int .i16 v172_2, .int .i16 v172_3]).length = (L129.set k129 [.int .i64 v151_0, .int .i16 v151_1, .int .i16 v151_2, .int .i16 v151_3]).length := by simp
     have g225 : OnlyS S H H224 := g221.trans oo224
     refine run_mc (φ := φ0) (pm := pmS 0 [] 0) 20 (ws := []) (env := [(74, .agg [nI 13, .nd 14 (.int .i16), .nd 15 (.int .i16), .nd 16 (.int .i16)]), (13, nI 7), (4, .fn 87 [] []), (0, n1 0), (2, nI 2), (1, nI 1), (3, nI 3), (10, nI 4)]) q209 .nil (sepOk_ro rfl) .nil (eC q209 (sn B8)) tbS_ok ap_ok ?_
     refine all1 kr fun vs ls H227 E227 st hE => ?_
     obtain ⟨w228, hw228⟩ : ∃ z, z = (IntKind.wrap .i64 ((k129 : Int) + 1)) := ⟨_, rfl⟩
     have b229 : E227 13 = .int .i64 w228 := by rw [hw228]; exact eo st hE 13 _
     have b230 := eo st hE 10 (.int .i64 (i15 : Int))
     have b231 := eo st hE 0 S
     have b232 := eo st hE 3 (.int .i64 (b : Int))
     have b233 := eo st hE 2 (.int .i64 (m : Int))
     have b234 := eo st hE 1 (.int .i64 (a : Int))
     have b235 := eo st hE 4 (.func 87 [] [])
     have g236 : Grew H224 H227 := (gk st)
     have g237 : OnlyS S H H227 := g225.grewR g236
     have s238 := s224.grew g236
     have nw228 : w228 = ((k129 : Int) + 1) := by
      rw [hw228]
      rw [show (IntKind.wrap .i64 ((k129 : Int) + 1)) = (k129 : Int) + 1 from wrap_i64 om om]
     obtain ⟨k239, hk239⟩ : ∃ k : Nat, w228 = (k : Int) := ⟨Int.toNat w228, by omega⟩
     have hsw9 : ((L129.set k129 [.int .i64 v151_0, .int .i16 v151_1, .int .i16 v151_2, .int .i16 v151_3]).set k150 [.int .i64 v172_0, .int .i16 v172_1, .int .i16 v172_2, .int .i16 v172_3]) = swp L129 k129 k150 := by unfold swp; rw [he172, he151]
     have hm9 : m + b - k239 < z129 := by omega
     exact res_norm kr ⟨m + b - k239, hm9, k239, ((L129.set k129 [.int .i64 v151_0, .int .i16 v151_1, .int .i16 v151_2, .int .i16 v151_3]).set k150 [.int .i64 v172_0, .int .i16 v172_1, .int .i16 v172_2, .int .i16 v172_3]), rfl, b230, b231, b232, b233, b234, b235, (b229.trans (by rw [hk239])), g237, s238, (Recs.set (Recs.set hr129_0 (.cons kA (.cons kA (.cons kA (.cons kA .nil))))) (.cons kA (.cons kA (.cons kA (.cons kA .nil))))), ⟨by omega, by omega, by rw [hsw9, show k150 = k129 + 1 by omega, hrtk129, show k239 + 1 = k129 + 2 by omega]; exact one1_step om om om⟩⟩
    ·
     intro vs ls H240 E240 st hE
     have f241 : ¬ ((k129 : Int) < (IntKind.wrap .i64 ((i15 : Int) - 1))) := df st 0
     rw [show (IntKind.wrap .i64 ((i15 : Int) - 1)) = (i15 : Int) - 1 from wrap_i64 om om] at f241
     obtain ⟨w246, hw246⟩ : ∃ z, z = (IntKind.wrap .i64 ((i15 : Int) - 1)) := ⟨_, rfl⟩
     have b247 : E240 57 = .int .i64 w246 := by rw [hw246]; exact eo st hE 57 _
     obtain ⟨w248, hw248⟩ : ∃ z, z = (decide ((k129 : Int) < (IntKind.wrap .i64 ((i15 : Int) - 1)))) := ⟨_, rfl⟩
     have b249 : E240 58 = .bool w248 := by rw [hw248]; exact eo st hE 58 _
     have B9 := es st hE [(13, .int .i64 (k129 : Int)), (10, .int .i64 (i15 : Int)), (56, .int .i64 (i15 : Int)), (55, .int .i64 (k129 : Int)), (0, S), (3, .int .i64 (b : Int)), (2, .int .i64 (m : Int)), (1, .int .i64 (a : Int)), (4, .func 87 [] [])]
     have g255 : Grew Hx129 H240 := (gk st)
     have g256 : OnlyS S H H240 := gt129.grewR g255
     have s257 := so129_0.grew g255
     have nw246 : w246 = ((i15 : Int) - 1) := by
      rw [hw246]
      rw [show (IntKind.wrap .i64 ((i15 : Int) - 1)) = (i15 : Int) - 1 from wrap_i64 om om]
     refine res_exit (id := 2) kr ?_
     have q258 := q130.app (kL : KdsL [KI, .bool] [.int .i64 w246, .bool w248])
     refine run_mc (φ := φ0) (pm := pmS 0 [] 0) 20 (ws := []) (env := [(13, nI 7), (10, nI 4), (56, nI 4), (55, nI 7), (0, n1 0), (3, nI 3), (2, nI 2), (1, nI 1), (4, .fn 87 [] []), (57, nI 8), (58, nB 9)]) q258 .nil (sepOk_ro rfl) .nil (eC q258 (sc B9 (.cons b247 (.cons b249 .nil)))) tbS_ok ap_ok ?_
     refine all1 kr fun vs ls H259 E259 st hE => ?_
     have gz : OnlyS S H H259 := (g256.grewR (gk st))
     have hfin : L129 = L129 := rfl
     exact res_ex kr (ret_join kr (end_same st.inn hE (.inr rfl) (a := .tuple []) kr gz.next ⟨rfl, gz, _, (s257.grew (st.inn.kept.grew (Nat.le_refl _))), hr129_0, by rw [hrtk129, show k129 + 1 = i15 by omega]; exact sy_one1 om om om hbl hs2 (by have := hivi15.2.2.2.1; omega) (by have := hivi15.2.2.2.2; rw [show j15 = i15 by omega] at this; omega)⟩))
  ·
   intro vs ls H260 E260 st hE
   have f261 : (IntKind.wrap .i64 ((b : Int) - (m : Int))) = 1 := dt st 0
   rw [show (IntKind.wrap .i64 ((b : Int) - (m : Int))) = (b : Int) - (m : Int) from wrap_i64 om om] at f261
   have f262 : ¬ ((IntKind.wrap .i64 ((m : Int) - (a : Int))) = 1) := df st 1
   rw [show (IntKind.wrap .i64 ((m : Int) - (a : Int))) = (m : Int) - (a : Int) from wrap_i64 om om] at f262
   have b263 := eo st hE 14 (.int .i64 (a : Int))
   have b264 := eo st hE 15 (.int .i64 (m : Int))
   have b265 := eo st hE 4 (.func 87 [] [])
   have b266 := eo st hE 0 S
   have b267 := eo st hE 2 (.int .i64 (m : Int))
   have b268 := eo st hE 1 (.int .i64 (a : Int))
   have b269 := eo st hE 3 (.int .i64 (b : Int))
   have g270 : Grew H H260 := (gk st)
   have g271 : OnlyS S H H260 := (OnlyS.of_grew (Grew.refl H)).grewR g270
   have s272 := hS.grew g270
   refine res_loop kr (fun z E H' => ∃ (i273 : Nat) (j273 : Nat), z = j273 - i273 ∧ E 4 = .func 87 [] [] ∧ E 0 = S ∧ E 2 = .int .i64 (m : Int) ∧ E 1 = .int .i64 (a : Int) ∧ E 3 = .int .i64 (b : Int) ∧ E 14 = .int .i64 (i273 : Int) ∧ E 15 = .int .i64 (j273 : Int) ∧ OnlyS S H H' ∧ SlF H' 4 L0 S ∧ a ≤ i273 ∧ i273 ≤ j273 ∧ j273 ≤ m ∧ (i273 = a ∨ tmR L0 (i273 - 1) ≤ tmR L0 m) ∧ (j273 = m ∨ tmR L0 m < tmR L0 j273)) (m - a) ⟨a, m, rfl, b265, b266, b267, b268, b269, b263, b264, g271, s272, ⟨by omega, by omega, by omega, .inl om, .inl om⟩⟩ ?_
   rintro z273 E273 Hx273 ⟨i273, j273, hz273, c273_4, c273_0, c273_2, c273_1, c273_3, cv273_14, cv273_15, gt273, sp273_0, iv273⟩
   have hivi273 := iv273
   obtain ⟨hi1i273, hi2i273, hi3i273, _, _⟩ := iv273
   have q274 := q2.app (kL : KdsL [KI, KI] [.int .i64 (i273 : Int), .int .i64 (j273 : Int)])
   refine run_mc (φ := φ0) (pm := pmS 0 [] 0) 20 (ws := []) (env := [(4, .fn 87 [] []), (0, n1 0), (2, nI 2), (1, nI 1), (3, nI 3), (14, nI 4), (15, nI 5)]) q274 .nil (sepOk_ro rfl) .nil (eC q274 (.cons c273_4 (.cons c273_0 (.cons c273_2 (.cons c273_1 (.cons c273_3 (.cons cv273_14 (.cons cv273_15 .nil)))))))) tbS_ok ap_ok ?_
   refine all2 kr ?_ ?_
   ·
    intro vs ls H275 E275 st hE
    have f276 : (i273 : Int) < (j273 : Int) := dt st 0
    obtain ⟨w280, hw280⟩ : ∃ z, z = (IntKind.wrap .i64 (Int.fdiv (IntKind.wrap .u64 (IntKind.wrap .i64 ((i273 : Int) + (j273 : Int)))) (2 ^ (min (Int.toNat 1) (IntKind.bits .u64))))) := ⟨_, rfl⟩
    have b281 : E275 16 = .int .i64 w280 := by rw [hw280]; exact eo st hE 16 _
    have B10 := es st hE [(93, S), (94, .int .i64 (m : Int)), (0, S), (92, .func 87 [] []), (4, .func 87 [] []), (2, .int .i64 (m : Int)), (1, .int .i64 (a : Int)), (3, .int .i64 (b : Int)), (14, .int .i64 (i273 : Int)), (15, .int .i64 (j273 : Int))]
    have g290 : Grew Hx273 H275 := (gk st)
    have g291 : OnlyS S H H275 := gt273.grewR g290
    have s292 := sp273_0.grew g290
    have nw280 : w280 = (((i273 + j273) / 2 : Nat) : Int) := by
     rw [hw280, half_word i273 j273 om]
    have hlt293 : m < L0.length := by omega
    obtain ⟨lS293, cap293, rest293, wr293, eS293, gS293⟩ := (s292.toL).isSl hlt293
    obtain ⟨v293_0, v293_1, v293_2, v293_3, hm293⟩ := partsReading (hr.get hlt293)
    have he293 : L0.getD m [] = [.int .i64 v293_0, .int .i16 v293_1, .int .i16 v293_2, .int .i16 v293_3] := by rw [← hm293, List.getD_eq_getElem?_getD, List.getElem?_eq_getElem hlt293]; rfl
    have q294 := q274.app (kL : KdsL [KI, KI, .int .i16, .int .i16, .int .i16] [.int .i64 w280, .int .i64 v293_0, .int .i16 v293_1, .int .i16 v293_2, .int .i16 v293_3])
    refine run_mc (φ := φ0) (pm := pmS 1 [(.ia 4 (n1 0) (nI 2), .ptr 0 0)] 0) 20 (ws := [⟨lS293, (m * 4), [nI 7, .nd 8 (.int .i16), .nd 9 (.int .i16), .nd 10 (.int .i16)], false⟩]) (env := [(93, n1 0), (94, nI 2), (0, n1 0), (92, .fn 87 [] []), (4, .fn 87 [] []), (2, nI 2), (1, nI 1), (3, nI 3), (14, nI 4), (15, nI 5), (16, nI 6)]) q294 (.cons (win_elem hr gS293 hlt293 rfl (by rw [hm293]; exact (dL q294))) .nil) (sepOk_ro rfl) (.cons (rule_iaS (k := m) (dE q294) eS293 (dE q294) hlt293 rfl) .nil) (eC q294 (sc B10 (.cons b281 .nil))) tbS_ok ap_ok ?_
    refine all1 kr fun vs ls H295 E295 st hE => ?_
    have B11 := es st hE [(97, S), (98, .int .i64 w280), (92, .func 87 [] []), (96, .agg [.int .i64 v293_0, .int .i16 v293_1, .int .i16 v293_2, .int .i16 v293_3]), (16, .int .i64 w280), (4, .func 87 [] []), (0, S), (2, .int .i64 (m : Int)), (1, .int .i64 (a : Int)), (3, .int .i64 (b : Int)), (14, .int .i64 (i273 : Int)), (15, .int .i64 (j273 : Int))]
    have g309 : Grew H275 H295 := (gk st)
    have g310 : OnlyS S H H295 := g291.grewR g309
    have s312 := s292.grew g309
    obtain ⟨k313, rfl⟩ : ∃ k : Nat, w280 = (k : Int) := ⟨Int.toNat w280, by omega⟩
    have hlt314 : k313 < L0.length := by omega
    obtain ⟨lS314, cap314, rest314, wr314, eS314, gS314⟩ := (s312.toL).isSl hlt314
    obtain ⟨v314_0, v314_1, v314_2, v314_3, hm314⟩ := partsReading (hr.get hlt314)
    have he314 : L0.getD k313 [] = [.int .i64 v314_0, .int .i16 v314_1, .int .i16 v314_2, .int .i16 v314_3] := by rw [← hm314, List.getD_eq_getElem?_getD, List.getElem?_eq_getElem hlt314]; rfl
    have q315 : KdsL [.one, KI, KI, KI, KI, KI, KI, KI, .int .i16, .int .i16, .int .i16, KI, .int .i16, .int .i16, .int .i16] [S, .int .i64 (a : Int), .int .i64 (m : Int), .int .i64 (b : Int), .int .i64 (i273 : Int), .int .i64 (j273 : Int), .int .i64 (k313 : Int), .int .i64 v293_0, .int .i16 v293_1, .int .i16 v293_2, .int .i16 v293_3, .int .i64 v314_0, .int .i16 v314_1, .int .i16 v314_2, .int .i16 v314_3] := kL
    refine run_mc (φ := φ0) (pm := pmS 1 [(.ia 4 (n1 0) (nI 6), .ptr 0 0)] 0) 20 (ws := [⟨lS314, (k313 * 4), [nI 11, .nd 12 (.int .i16), .nd 13 (.int .i16), .nd 14 (.int .i16)], false⟩]) (env := [(97, n1 0), (98, nI 6), (92, .fn 87 [] []), (96, .agg [nI 7, .nd 8 (.int .i16), .nd 9 (.int .i16), .nd 10 (.int .i16)]), (16, nI 6), (4, .fn 87 [] []), (0, n1 0), (2, nI 2), (1, nI 1), (3, nI 3), (14, nI 4), (15, nI 5)]) q315 (.cons (win_elem hr gS314 hlt314 rfl (by rw [hm314]; exact (dL q315))) .nil) (sepOk_ro rfl) (.cons (rule_iaS (k := k313) (dE q315) eS314 (dE q315) hlt314 rfl) .nil) (eC q315 B11) tbS_ok ap_ok ?_
    refine all3 kr ?_ ?_ ?_
    ·
     intro vs ls H316 E316 st hE
     have f317 : v293_0 < v314_0 := dt st 0
     have b318 := eo st hE 14 (.int .i64 (i273 : Int))
     have b319 := eo st hE 15 (.int .i64 (k313 : Int))
     have b320 := eo st hE 4 (.func 87 [] [])
     have b321 := eo st hE 0 S
     have b322 := eo st hE 2 (.int .i64 (m : Int))
     have b323 := eo st hE 1 (.int .i64 (a : Int))
     have b324 := eo st hE 3 (.int .i64 (b : Int))
     have g325 : Grew H295 H316 := (gk st)
     have g326 : OnlyS S H H316 := g310.grewR g325
     have s328 := s312.grew g325
     have tm293 : tmR L0 m = v293_0 := by unfold tmR; rw [he293]; rfl
     have tm314 : tmR L0 k313 = v314_0 := by unfold tmR; rw [he314]; rfl
     have hm9 : k313 - i273 < z273 := by omega
     exact res_norm kr ⟨k313 - i273, hm9, i273, k313, rfl, b320, b321, b322, b323, b324, b318, b319, g326, s328, ⟨by omega, by omega, by omega, hivi273.2.2.2.1, .inr (by rw [show k313 = k313 by omega]; omega)⟩⟩
    ·
     intro vs ls H329 E329 st hE
     have f330 : v314_0 < v293_0 := dt st 0
     have f331 : ¬ (v293_0 < v314_0) := df st 1
     obtain ⟨w332, hw332⟩ : ∃ z, z = (IntKind.wrap .i64 ((k313 : Int) + 1)) := ⟨_, rfl⟩
     have b333 : E329 14 = .int .i64 w332 := by rw [hw332]; exact eo st hE 14 _
     have b334 := eo st hE 15 (.int .i64 (j273 : Int))
     have b335 := eo st hE 4 (.func 87 [] [])
     have b336 := eo st hE 0 S
     have b337 := eo st hE 2 (.int .i64 (m : Int))
     have b338 := eo st hE 1 (.int .i64 (a : Int))
     have b339 := eo st hE 3 (.int .i64 (b : Int))
     have g340 : Grew H295 H329 := (gk st)
     have g341 : OnlyS S H H329 := g310.grewR g340
     have s343 := s312.grew g340
     have nw332 : w332 = ((k313 : Int) + 1) := by
      rw [hw332]
      rw [show (IntKind.wrap .i64 ((k313 : Int) + 1)) = (k313 : Int) + 1 from wrap_i64 om om]
     obtain ⟨k344, hk344⟩ : ∃ k : Nat, w332 = (k : Int) := ⟨Int.toNat w332, by omega⟩
     have tm293 : tmR L0 m = v293_0 := by unfold tmR; rw [he293]; rfl
     have tm314 : tmR L0 k313 = v314_0 := by unfold tmR; rw [he314]; rfl
     have hm9 : j273 - k344 < z273 := by omega
     exact res_norm kr ⟨j273 - k344, hm9, k344, j273, rfl, b335, b336, b337, b338, b339, (b333.trans (by rw [hk344])), b334, g341, s343, ⟨by omega, by omega, by omega, .inr (by rw [show k344 - 1 = k313 by omega]; omega), hivi273.2.2.2.2⟩⟩
    ·
     intro vs ls H345 E345 st hE
     have f346 : ¬ (v314_0 < v293_0) := df st 0
     have f347 : ¬ (v293_0 < v314_0) := df st 1
     obtain ⟨w348, hw348⟩ : ∃ z, z = (IntKind.wrap .i64 ((k313 : Int) + 1)) := ⟨_, rfl⟩
     have b349 : E345 14 = .int .i64 w348 := by rw [hw348]; exact eo st hE 14 _
     have b350 := eo st hE 15 (.int .i64 (j273 : Int))
     have b351 := eo st hE 4 (.func 87 [] [])
     have b352 := eo st hE 0 S
     have b353 := eo st hE 2 (.int .i64 (m : Int))
     have b354 := eo st hE 1 (.int .i64 (a : Int))
     have b355 := eo st hE 3 (.int .i64 (b : Int))
     have g356 : Grew H295 H345 := (gk st)
     have g357 : OnlyS S H H345 := g310.grewR g356
     have s359 := s312.grew g356
     have nw348 : w348 = ((k313 : Int) + 1) := by
      rw [hw348]
      rw [show (IntKind.wrap .i64 ((k313 : Int) + 1)) = (k313 : Int) + 1 from wrap_i64 om om]
     obtain ⟨k360, hk360⟩ : ∃ k : Nat, w348 = (k : Int) := ⟨Int.toNat w348, by omega⟩
     have tm293 : tmR L0 m = v293_0 := by unfold tmR; rw [he293]; rfl
     have tm314 : tmR L0 k313 = v314_0 := by unfold tmR; rw [he314]; rfl
     have hm9 : j273 - k360 < z273 := by omega
     exact res_norm kr ⟨j273 - k360, hm9, k360, j273, rfl, b351, b352, b353, b354, b355, (b349.trans (by rw [hk360])), b350, g357, s359, ⟨by omega, by omega, by omega, .inr (by rw [show k360 - 1 = k313 by omega]; omega), hivi273.2.2.2.2⟩⟩
   ·
    intro vs ls H361 E361 st hE
    have f362 : ¬ ((i273 : Int) < (j273 : Int)) := df st 0
    obtain ⟨w367, hw367⟩ : ∃ z, z = (decide ((i273 : Int) < (j273 : Int))) := ⟨_, rfl⟩
    have b368 : E361 85 = .bool w367 := by rw [hw367]; exact eo st hE 85 _
    have B12 := es st hE [(14, .int .i64 (i273 : Int)), (15, .int .i64 (j273 : Int)), (83, .int .i64 (i273 : Int)), (84, .int .i64 (j273 : Int)), (4, .func 87 [] []), (0, S), (2, .int .i64 (m : Int)), (1, .int .i64 (a : Int)), (3, .int .i64 (b : Int))]
    have g374 : Grew Hx273 H361 := (gk st)
    have g375 : OnlyS S H H361 := gt273.grewR g374
    have s376 := sp273_0.grew g374
    refine res_exit (id := 4) kr ?_
    have q377 := q274.app (kL : KdsL [.bool] [.bool w367])
    refine run_mc (φ := φ0) (pm := pmS 0 [] 0) 20 (ws := []) (env := [(14, nI 4), (15, nI 5), (83, nI 4), (84, nI 5), (4, .fn 87 [] []), (0, n1 0), (2, nI 2), (1, nI 1), (3, nI 3), (85, nB 6)]) q377 .nil (sepOk_ro rfl) .nil (eC q377 (sc B12 (.cons b368 .nil))) tbS_ok ap_ok ?_
    refine all1 kr fun vs ls H378 E378 st hE => ?_
    have b379 := eo st hE 17 (.int .i64 (m : Int))
    have b380 := eo st hE 14 (.int .i64 (i273 : Int))
    have b381 := eo st hE 0 S
    have b382 := eo st hE 1 (.int .i64 (a : Int))
    have b383 := eo st hE 3 (.int .i64 (b : Int))
    have b384 := eo st hE 2 (.int .i64 (m : Int))
    have b385 := eo st hE 4 (.func 87 [] [])
    have g386 : Grew H361 H378 := (gk st)
    have g387 : OnlyS S H H378 := g375.grewR g386
    have s388 := s376.grew g386
    refine res_loop kr (fun z E H' => ∃ (k389 : Nat) (L389 : List (List AV)), z = k389 ∧ E 14 = .int .i64 (i273 : Int) ∧ E 0 = S ∧ E 1 = .int .i64 (a : Int) ∧ E 3 = .int .i64 (b : Int) ∧ E 2 = .int .i64 (m : Int) ∧ E 4 = .func 87 [] [] ∧ E 17 = .int .i64 (k389 : Int) ∧ OnlyS S H H' ∧ SlF H' 4 L389 S ∧ Recs KR L389 ∧ i273 ≤ k389 ∧ k389 ≤ m ∧ L389 = rot L0 k389 m b) (m) ⟨m, L0, rfl, b380, b381, b382, b383, b384, b385, b379, g387, s388, hr, ⟨by omega, by omega, (rot_triv1 om hbl).symm⟩⟩ ?_
    rintro z389 E389 Hx389 ⟨k389, L389, hz389, c389_14, c389_0, c389_1, c389_3, c389_2, c389_4, cv389_17, gt389, so389_0, hr389_0, iv389⟩
    obtain ⟨hk1k389, hk2k389, hrtk389⟩ := iv389
    have hlk389 : L389.length = L0.length := by rw [hrtk389]; exact rot_len om om om
    have q390 := q377.app (kL : KdsL [KI] [.int .i64 (k389 : Int)])
    refine run_mc (φ := φ0) (pm := pmS 0 [] 0) 20 (ws := []) (env := [(14, nI 4), (0, n1 0), (1, nI 1), (3, nI 3), (2, nI 2), (4, .fn 87 [] []), (17, nI 7)]) q390 .nil (sepOk_ro rfl) .nil (eC q390 (.cons c389_14 (.cons c389_0 (.cons c389_1 (.cons c389_3 (.cons c389_2 (.cons c389_4 (.cons cv389_17 .nil)))))))) tbS_ok ap_ok ?_
    refine all2 kr ?_ ?_
    ·
     intro vs ls H391 E391 st hE
     have f392 : (i273 : Int) < (k389 : Int) := dt st 0
     obtain ⟨w394, hw394⟩ : ∃ z, z = (IntKind.wrap .i64 ((k389 : Int) - 1)) := ⟨_, rfl⟩
     have b395 : E391 120 = .int .i64 w394 := by rw [hw394]; exact eo st hE 120 _
     have b401 : E391 117 = .int .i64 w394 := by rw [hw394]; exact eo st hE 117 _
     have B13 := es st hE [(118, S), (0, S), (17, .int .i64 (k389 : Int)), (113, S), (114, .int .i64 (k389 : Int)), (115, S), (4, .func 87 [] []), (2, .int .i64 (m : Int)), (1, .int .i64 (a : Int)), (3, .int .i64 (b : Int)), (14, .int .i64 (i273 : Int))]
     have g407 : Grew Hx389 H391 := (gk st)
     have g408 : OnlyS S H H391 := gt389.grewR g407
     have s409 := so389_0.grew g407
     have nw394 : w394 = ((k389 : Int) - 1) := by
      rw [hw394]
      rw [show (IntKind.wrap .i64 ((k389 : Int) - 1)) = (k389 : Int) - 1 from wrap_i64 om om]
     obtain ⟨k410, rfl⟩ : ∃ k : Nat, w394 = (k : Int) := ⟨Int.toNat w394, by omega⟩
     have hlt411 : k410 < L389.length := by omega
     obtain ⟨lS411, cap411, rest411, wr411, eS411, gS411⟩ := (s409.toL).isSl hlt411
     obtain ⟨v411_0, v411_1, v411_2, v411_3, hm411⟩ := partsReading (hr389_0.get hlt411)
     have he411 : L389.getD k410 [] = [.int .i64 v411_0, .int .i16 v411_1, .int .i16 v411_2, .int .i16 v411_3] := by rw [← hm411, List.getD_eq_getElem?_getD, List.getElem?_eq_getElem hlt411]; rfl
     have q412 := q390.app (kL : KdsL [KI, KI, .int .i16, .int .i16, .int .i16] [.int .i64 (k410 : Int), .int .i64 v411_0, .int .i16 v411_1, .int .i16 v411_2, .int .i16 v411_3])
     refine run_mc (φ := φ0) (pm := pmS 1 [(.ia 4 (n1 0) (nI 8), .ptr 0 0)] 0) 20 (ws := [⟨lS411, (k410 * 4), [nI 9, .nd 10 (.int .i16), .nd 11 (.int .i16), .nd 12 (.int .i16)], false⟩]) (env := [(118, n1 0), (0, n1 0), (17, nI 7), (113, n1 0), (114, nI 7), (115, n1 0), (4, .fn 87 [] []), (2, nI 2), (1, nI 1), (3, nI 3), (14, nI 4), (120, nI 8), (117, nI 8)]) q412 (.cons (win_elem hr389_0 gS411 hlt411 rfl (by rw [hm411]; exact (dL q412))) .nil) (sepOk_ro rfl) (.cons (rule_iaS (k := k410) (dE q412) eS411 (dE q412) hlt411 rfl) .nil) (eC q412 (sc B13 (.cons b395 (.cons b401 .nil)))) tbS_ok ap_ok ?_
     refine all1 kr fun vs ls H413 E413 st hE => ?_
     have B14 := es st hE [(123, S), (124, .int .i64 (k389 : Int)), (113, S), (114, .int .i64 (k389 : Int)), (122, .agg [.int .i64 v411_0, .int .i16 v411_1, .int .i16 v411_2, .int .i16 v411_3]), (115, S), (117, .int .i64 (k410 : Int)), (17, .int .i64 (k389 : Int)), (4, .func 87 [] []), (0, S), (2, .int .i64 (m : Int)), (1, .int .i64 (a : Int)), (3, .int .i64 (b : Int)), (14, .int .i64 (i273 : Int))]
     have g428 : Grew H391 H413 := (gk st)
     have g429 : OnlyS S H H413 := g408.grewR g428
     have s431 := s409.grew g428
     have hlt432 : k389 < L389.length := by omega
     obtain ⟨lS432, cap432, rest432, wr432, eS432, gS432⟩ := (s431.toL).isSl hlt432
     obtain ⟨v432_0, v432_1, v432_2, v432_3, hm432⟩ := partsReading (hr389_0.get hlt432)
     have he432 : L389.getD k389 [] = [.int .i64 v432_0, .int .i16 v432_1, .int .i16 v432_2, .int .i16 v432_3] := by rw [← hm432, List.getD_eq_getElem?_getD, List.getElem?_eq_getElem hlt432]; rfl
     have q433 := q412.app (kL : KdsL [KI, .int .i16, .int .i16, .int .i16] [.int .i64 v432_0, .int .i16 v432_1, .int .i16 v432_2, .int .i16 v432_3])
     refine run_mc (φ := φ0) (pm := pmS 1 [(.ia 4 (n1 0) (nI 7), .ptr 0 0)] 0) 20 (ws := [⟨lS432, (k389 * 4), [nI 13, .nd 14 (.int .i16), .nd 15 (.int .i16), .nd 16 (.int .i16)], false⟩]) (env := [(123, n1 0), (124, nI 7), (113, n1 0), (114, nI 7), (122, .agg [nI 9, .nd 10 (.int .i16), .nd 11 (.int .i16), .nd 12 (.int .i16)]), (115, n1 0), (117, nI 8), (17, nI 7), (4, .fn 87 [] []), (0, n1 0), (2, nI 2), (1, nI 1), (3, nI 3), (14, nI 4)]) q433 (.cons (win_elem hr389_0 gS432 hlt432 rfl (by rw [hm432]; exact (dL q433))) .nil) (sepOk_ro rfl) (.cons (rule_iaS (k := k389) (dE q433) eS432 (dE q433) hlt432 rfl) .nil) (eC q433 B14) tbS_ok ap_ok ?_
     refine all1 kr fun vs ls H434 E434 st hE => ?_
     have b435 := eo st hE 127 (.ptr lS432 ((k389 * 4) + 0))
     have b436 := eo st hE 122 (.agg [.int .i64 v411_0, .int .i16 v411_1, .int .i16 v411_2, .int .i16 v411_3])
     have B15 := es st hE [(122, .agg [.int .i64 v411_0, .int .i16 v411_1, .int .i16 v411_2, .int .i16 v411_3]), (115, S), (117, .int .i64 (k410 : Int)), (126, .agg [.int .i64 v432_0, .int .i16 v432_1, .int .i16 v432_2, .int .i16 v432_3]), (17, .int .i64 (k389 : Int)), (4, .func 87 [] []), (0, S), (2, .int .i64 (m : Int)), (1, .int .i64 (a : Int)), (3, .int .i64 (b : Int)), (14, .int .i64 (i273 : Int))]
     have g447 : Grew H413 H434 := (gk st)
     have g448 : OnlyS S H H434 := g429.grewR g447
     have s450 := s431.grew g447
     refine res_storeSFK (d := none) (n := 4) (x := .tmp 127) (y := .tmp 122) kr (S := S) (ms := L389) (k := k389) (m' := [.int .i64 v411_0, .int .i16 v411_1, .int .i16 v411_2, .int .i16 v411_3]) (s450) eS432 b435 hlt432 hr389_0.len (by show AV.cells (E434 122) = _; rw [b436]; rfl) rfl rfl rfl ?_
     intro H451 s451 oo451
     have hln451 : (L389.set k389 [.int .i64 v411_0, .int .i16 v411_1, .int .i16 v411_2, .int .i16 v411_3]).length = L389.length := by simp
     have g452 : OnlyS S H H451 := g448.trans oo451
     refine run_mc (φ := φ0) (pm := pmS 0 [] 0) 20 (ws := []) (env := [(122, .agg [nI 9, .nd 10 (.int .i16), .nd 11 (.int .i16), .nd 12 (.int .i16)]), (115, n1 0), (117, nI 8), (126, .agg [nI 13, .nd 14 (.int .i16), .nd 15 (.int .i16), .nd 16 (.int .i16)]), (17, nI 7), (4, .fn 87 [] []), (0, n1 0), (2, nI 2), (1, nI 1), (3, nI 3), (14, nI 4)]) q433 .nil (sepOk_ro rfl) .nil (eC q433 (sn B15)) tbS_ok ap_ok ?_
     refine all1 kr fun vs ls H454 E454 st hE => ?_
     have B16 := es st hE [(115, S), (117, .int .i64 (k410 : Int)), (126, .agg [.int .i64 v432_0, .int .i16 v432_1, .int .i16 v432_2, .int .i16 v432_3]), (17, .int .i64 (k389 : Int)), (4, .func 87 [] []), (0, S), (2, .int .i64 (m : Int)), (1, .int .i64 (a : Int)), (3, .int .i64 (b : Int)), (14, .int .i64 (i273 : Int))]
     have g465 : Grew H451 H454 := (gk st)
     have g466 : OnlyS S H H454 := g452.grewR g465
     have s467 := s451.grew g465
     have hlt468 : k410 < (L389.set k389 [.int .i64 v411_0, .int .i16 v411_1, .int .i16 v411_2, .int .i16 v411_3]).length := by omega
     obtain ⟨lS468, cap468, rest468, wr468, eS468, gS468⟩ := (s467.toL).isSl hlt468
     obtain ⟨v468_0, v468_1, v468_2, v468_3, hm468⟩ := partsReading ((Recs.set hr389_0 (.cons kA (.cons kA (.cons kA (.cons kA .nil))))).get hlt468)
     have he468 : (L389.set k389 [.int .i64 v411_0, .int .i16 v411_1, .int .i16 v411_2, .int .i16 v411_3]).getD k410 [] = [.int .i64 v468_0, .int .i16 v468_1, .int .i16 v468_2, .int .i16 v468_3] := by rw [← hm468, List.getD_eq_getElem?_getD, List.getElem?_eq_getElem hlt468]; rfl
     have q469 := q433.app (kL : KdsL [KI, .int .i16, .int .i16, .int .i16] [.int .i64 v468_0, .int .i16 v468_1, .int .i16 v468_2, .int .i16 v468_3])
     refine run_mc (φ := φ0) (pm := pmS 1 [(.ia 4 (n1 0) (nI 8), .ptr 0 0)] 0) 20 (ws := [⟨lS468, (k410 * 4), [nI 17, .nd 18 (.int .i16), .nd 19 (.int .i16), .nd 20 (.int .i16)], false⟩]) (env := [(115, n1 0), (117, nI 8), (126, .agg [nI 13, .nd 14 (.int .i16), .nd 15 (.int .i16), .nd 16 (.int .i16)]), (17, nI 7), (4, .fn 87 [] []), (0, n1 0), (2, nI 2), (1, nI 1), (3, nI 3), (14, nI 4)]) q469 (.cons (win_elem (Recs.set hr389_0 (.cons kA (.cons kA (.cons kA (.cons kA .nil))))) gS468 hlt468 rfl (by rw [hm468]; exact (dL q469))) .nil) (sepOk_ro rfl) (.cons (rule_iaS (k := k410) (dE q469) eS468 (dE q469) hlt468 rfl) .nil) (eC q469 B16) tbS_ok ap_ok ?_
     refine all1 kr fun vs ls H470 E470 st hE => ?_
     have b471 := eo st hE 128 (.ptr lS468 ((k410 * 4) + 0))
     have b472 := eo st hE 126 (.agg [.int .i64 v432_0, .int .i16 v432_1, .int .i16 v432_2, .int .i16 v432_3])
     have B17 := es st hE [(126, .agg [.int .i64 v432_0, .int .i16 v432_1, .int .i16 v432_2, .int .i16 v432_3]), (17, .int .i64 (k389 : Int)), (4, .func 87 [] []), (0, S), (2, .int .i64 (m : Int)), (1, .int .i64 (a : Int)), (3, .int .i64 (b : Int)), (14, .int .i64 (i273 : Int))]
     have g480 : Grew H454 H470 := (gk st)
     have g481 : OnlyS S H H470 := g466.grewR g480
     have s483 := s467.grew g480
     refine res_storeSFK (d := none) (n := 4) (x := .tmp 128) (y := .tmp 126) kr (S := S) (ms := (L389.set k389 [.int .i64 v411_0, .int .i16 v411_1, .int .i16 v411_2, .int .i16 v411_3])) (k := k410) (m' := [.int .i64 v432_0, .int .i16 v432_1, .int .i16 v432_2, .int .i16 v432_3]) (s483) eS468 b471 hlt468 (Recs.set hr389_0 (.cons kA (.cons kA (.cons kA (.cons kA .nil))))).len (by show AV.cells (E470 126) = _; rw [b472]; rfl) rfl rfl rfl ?_
     intro H484 s484 oo484
     have hln484 : ((L389.set k389 [.int .i64 v411_0, .int .i16 v411_1, .int .i16 v411_2, .int .i16 v411_3]).set k410 [.int .i64 v432_0, .int .i16 v432_1, .int .i16 v432_2, .int .i16 v432_3]).length = (L389.set k389 [.int .i64 v411_0, .int .i16 v411_1, .int .i16 v411_2, .int .i16 v411_3]).length := by simp
     have g485 : OnlyS S H H484 := g481.trans oo484
     refine run_mc (φ := φ0) (pm := pmS 0 [] 0) 20 (ws := []) (env := [(126, .agg [nI 13, .nd 14 (.int .i16), .nd 15 (.int .i16), .nd 16 (.int .i16)]), (17, nI 7), (4, .fn 87 [] []), (0, n1 0), (2, nI 2), (1, nI 1), (3, nI 3), (14, nI 4)]) q469 .nil (sepOk_ro rfl) .nil (eC q469 (sn B17)) tbS_ok ap_ok ?_
     refine all1 kr fun vs ls H487 E487 st hE => ?_
     obtain ⟨w488, hw488⟩ : ∃ z, z = (IntKind.wrap .i64 ((k389 : Int) - 1)) := ⟨_, rfl⟩
     have b489 : E487 17 = .int .i64 w488 := by rw [hw488]; exact eo st hE 17 _
     have b490 := eo st hE 14 (.int .i64 (i273 : Int))
     have b491 := eo st hE 0 S
     have b492 := eo st hE 1 (.int .i64 (a : Int))
     have b493 := eo st hE 3 (.int .i64 (b : Int))
     have b494 := eo st hE 2 (.int .i64 (m : Int))
     have b495 := eo st hE 4 (.func 87 [] [])
     have g496 : Grew H484 H487 := (gk st)
     have g497 : OnlyS S H H487 := g485.grewR g496
     have s498 := s484.grew g496
     have nw488 : w488 = ((k389 : Int) - 1) := by
      rw [hw488]
      rw [show (IntKind.wrap .i64 ((k389 : Int) - 1)) = (k389 : Int) - 1 from wrap_i64 om om]
     obtain ⟨k499, hk499⟩ : ∃ k : Nat, w488 = (k : Int) := ⟨Int.toNat w488, by omega⟩
     have hsw9 : ((L389.set k389 [.int .i64 v411_0, .int .i16 v411_1, .int .i16 v411_2, .int .i16 v411_3]).set k410 [.int .i64 v432_0, .int .i16 v432_1, .int .i16 v432_2, .int .i16 v432_3]) = swp L389 k389 k410 := by unfold swp; rw [he432, he411]
     have hm9 : k499 < z389 := by omega
     exact res_norm kr ⟨k499, hm9, k499, ((L389.set k389 [.int .i64 v411_0, .int .i16 v411_1, .int .i16 v411_2, .int .i16 v411_3]).set k410 [.int .i64 v432_0, .int .i16 v432_1, .int .i16 v432_2, .int .i16 v432_3]), rfl, b490, b491, b492, b493, b494, b495, (b489.trans (by rw [hk499])), g497, s498, (Recs.set (Recs.set hr389_0 (.cons kA (.cons kA (.cons kA (.cons kA .nil))))) (.cons kA (.cons kA (.cons kA (.cons kA .nil))))), ⟨by omega, by omega, by rw [hsw9, show k410 = k389 - 1 by omega, hrtk389, show k499 = k389 - 1 by omega]; exact one2_step om om om hbl⟩⟩
    ·
     intro vs ls H500 E500 st hE
     have f501 : ¬ ((i273 : Int) < (k389 : Int)) := df st 0
     obtain ⟨w506, hw506⟩ : ∃ z, z = (decide ((i273 : Int) < (k389 : Int))) := ⟨_, rfl⟩
     have b507 : E500 110 = .bool w506 := by rw [hw506]; exact eo st hE 110 _
     have B18 := es st hE [(17, .int .i64 (k389 : Int)), (14, .int .i64 (i273 : Int)), (108, .int .i64 (k389 : Int)), (109, .int .i64 (i273 : Int)), (0, S), (1, .int .i64 (a : Int)), (3, .int .i64 (b : Int)), (2, .int .i64 (m : Int)), (4, .func 87 [] [])]
     have g513 : Grew Hx389 H500 := (gk st)
     have g514 : OnlyS S H H500 := gt389.grewR g513
     have s515 := so389_0.grew g513
     refine res_exit (id := 6) kr ?_
     have q516 := q390.app (kL : KdsL [.bool] [.bool w506])
     refine run_mc (φ := φ0) (pm := pmS 0 [] 0) 20 (ws := []) (env := [(17, nI 7), (14, nI 4), (108, nI 7), (109, nI 4), (0, n1 0), (1, nI 1), (3, nI 3), (2, nI 2), (4, .fn 87 [] []), (110, nB 8)]) q516 .nil (sepOk_ro rfl) .nil (eC q516 (sc B18 (.cons b507 .nil))) tbS_ok ap_ok ?_
     refine all1 kr fun vs ls H517 E517 st hE => ?_
     have gz : OnlyS S H H517 := (g514.grewR (gk st))
     have hfin : L389 = L389 := rfl
     exact res_ex kr (ret_join kr (end_same st.inn hE (.inr rfl) (a := .tuple []) kr gz.next ⟨rfl, gz, _, (s515.grew (st.inn.kept.grew (Nat.le_refl _))), hr389_0, by rw [hrtk389, show k389 = i273 by omega]; exact sy_one2 om om om hbl hs1 (by have := hivi273.2.2.2.1; omega) (by have := hivi273.2.2.2.2; rw [show j273 = i273 by omega] at this; omega)⟩))
  ·
   intro vs ls H518 E518 st hE
   have f519 : (IntKind.wrap .i64 (Int.fdiv (IntKind.wrap .u64 (IntKind.wrap .i64 ((a : Int) + (b : Int)))) (2 ^ (min (Int.toNat 1) (IntKind.bits .u64))))) < (m : Int) := dt st 0
   have f520 : ¬ ((IntKind.wrap .i64 ((b : Int) - (m : Int))) = 1) := df st 1
   rw [show (IntKind.wrap .i64 ((b : Int) - (m : Int))) = (b : Int) - (m : Int) from wrap_i64 om om] at f520
   have f521 : ¬ ((IntKind.wrap .i64 ((m : Int) - (a : Int))) = 1) := df st 2
   rw [show (IntKind.wrap .i64 ((m : Int) - (a : Int))) = (m : Int) - (a : Int) from wrap_i64 om om] at f521
   obtain ⟨w522, hw522⟩ : ∃ z, z = (IntKind.wrap .i64 ((IntKind.wrap .i64 ((IntKind.wrap .i64 (Int.fdiv (IntKind.wrap .u64 (IntKind.wrap .i64 ((a : Int) + (b : Int)))) (2 ^ (min (Int.toNat 1) (IntKind.bits .u64))))) + (m : Int))) - (b : Int))) := ⟨_, rfl⟩
   have b523 : E518 20 = .int .i64 w522 := by rw [hw522]; exact eo st hE 20 _
   obtain ⟨w524, hw524⟩ : ∃ z, z = (IntKind.wrap .i64 (Int.fdiv (IntKind.wrap .u64 (IntKind.wrap .i64 ((a : Int) + (b : Int)))) (2 ^ (min (Int.toNat 1) (IntKind.bits .u64))))) := ⟨_, rfl⟩
   have b525 : E518 21 = .int .i64 w524 := by rw [hw524]; exact eo st hE 21 _
   have b526 := eo st hE 4 (.func 87 [] [])
   have b527 := eo st hE 0 S
   obtain ⟨w528, hw528⟩ : ∃ z, z = (IntKind.wrap .i64 ((IntKind.wrap .i64 ((IntKind.wrap .i64 (Int.fdiv (IntKind.wrap .u64 (IntKind.wrap .i64 ((a : Int) + (b : Int)))) (2 ^ (min (Int.toNat 1) (IntKind.bits .u64))))) + (m : Int))) - 1)) := ⟨_, rfl⟩
   have b529 : E518 22 = .int .i64 w528 := by rw [hw528]; exact eo st hE 22 _
   obtain ⟨w530, hw530⟩ : ∃ z, z = (IntKind.wrap .i64 ((IntKind.wrap .i64 (Int.fdiv (IntKind.wrap .u64 (IntKind.wrap .i64 ((a : Int) + (b : Int)))) (2 ^ (min (Int.toNat 1) (IntKind.bits .u64))))) + (m : Int))) := ⟨_, rfl⟩
   have b531 : E518 19 = .int .i64 w530 := by rw [hw530]; exact eo st hE 19 _
   have b532 := eo st hE 2 (.int .i64 (m : Int))
   have b533 := eo st hE 1 (.int .i64 (a : Int))
   have b534 : E518 18 = .int .i64 w524 := by rw [hw524]; exact eo st hE 18 _
   have b535 := eo st hE 3 (.int .i64 (b : Int))
   have g536 : Grew H H518 := (gk st)
   have g537 : OnlyS S H H518 := (OnlyS.of_grew (Grew.refl H)).grewR g536
   have s538 := hS.grew g536
   have nw522 : w522 = (((((a + b) / 2 : Nat) : Int) + (m : Int)) - (b : Int)) := by
    rw [hw522, half_word a b om]
    rw [show (IntKind.wrap .i64 ((((a + b) / 2 : Nat) : Int) + (m : Int))) = (((a + b) / 2 : Nat) : Int) + (m : Int) from wrap_i64 om om]
    rw [show (IntKind.wrap .i64 (((((a + b) / 2 : Nat) : Int) + (m : Int)) - (b : Int))) = ((((a + b) / 2 : Nat) : Int) + (m : Int)) - (b : Int) from wrap_i64 om om]
   have nw524 : w524 = (((a + b) / 2 : Nat) : Int) := by
    rw [hw524, half_word a b om]
   have nw528 : w528 = (((((a + b) / 2 : Nat) : Int) + (m : Int)) - 1) := by
    rw [hw528, half_word a b om]
    rw [show (IntKind.wrap .i64 ((((a + b) / 2 : Nat) : Int) + (m : Int))) = (((a + b) / 2 : Nat) : Int) + (m : Int) from wrap_i64 om om]
    rw [show (IntKind.wrap .i64 (((((a + b) / 2 : Nat) : Int) + (m : Int)) - 1)) = ((((a + b) / 2 : Nat) : Int) + (m : Int)) - 1 from wrap_i64 om om]
   have nw530 : w530 = ((((a + b) / 2 : Nat) : Int) + (m : Int)) := by
    rw [hw530, half_word a b om]
    rw [show (IntKind.wrap .i64 ((((a + b) / 2 : Nat) : Int) + (m : Int))) = (((a + b) / 2 : Nat) : Int) + (m : Int) from wrap_i64 om om]
   obtain ⟨k539, hk539⟩ : ∃ k : Nat, w524 = (k : Int) := ⟨Int.toNat w524, by omega⟩
   obtain ⟨k540, hk540⟩ : ∃ k : Nat, w530 = (k : Int) := ⟨Int.toNat w530, by omega⟩
   obtain ⟨k541, hk541⟩ : ∃ k : Nat, w522 = (k : Int) := ⟨Int.toNat w522, by omega⟩
   obtain ⟨k542, hk542⟩ : ∃ k : Nat, w524 = (k : Int) := ⟨Int.toNat w524, by omega⟩
   obtain ⟨k543, hk543⟩ : ∃ k : Nat, w528 = (k : Int) := ⟨Int.toNat w528, by omega⟩
   exact res_meet kr ⟨k539, k540, k541, k542, k543, b527, b533, b532, b535, b526, (b534.trans (by rw [hk539])), (b531.trans (by rw [hk540])), (b523.trans (by rw [hk541])), (b525.trans (by rw [hk542])), (b529.trans (by rw [hk543])), g537, s538, ⟨by omega, by omega, by omega, by omega⟩⟩
  ·
   intro vs ls H544 E544 st hE
   have f545 : ¬ ((IntKind.wrap .i64 (Int.fdiv (IntKind.wrap .u64 (IntKind.wrap .i64 ((a : Int) + (b : Int)))) (2 ^ (min (Int.toNat 1) (IntKind.bits .u64))))) < (m : Int)) := df st 0
   have f546 : ¬ ((IntKind.wrap .i64 ((b : Int) - (m : Int))) = 1) := df st 1
   rw [show (IntKind.wrap .i64 ((b : Int) - (m : Int))) = (b : Int) - (m : Int) from wrap_i64 om om] at f546
   have f547 : ¬ ((IntKind.wrap .i64 ((m : Int) - (a : Int))) = 1) := df st 2
   rw [show (IntKind.wrap .i64 ((m : Int) - (a : Int))) = (m : Int) - (a : Int) from wrap_i64 om om] at f547
   have b548 := eo st hE 20 (.int .i64 (a : Int))
   have b549 := eo st hE 21 (.int .i64 (m : Int))
   have b550 := eo st hE 4 (.func 87 [] [])
   have b551 := eo st hE 0 S
   obtain ⟨w552, hw552⟩ : ∃ z, z = (IntKind.wrap .i64 ((IntKind.wrap .i64 ((IntKind.wrap .i64 (Int.fdiv (IntKind.wrap .u64 (IntKind.wrap .i64 ((a : Int) + (b : Int)))) (2 ^ (min (Int.toNat 1) (IntKind.bits .u64))))) + (m : Int))) - 1)) := ⟨_, rfl⟩
   have b553 : E544 22 = .int .i64 w552 := by rw [hw552]; exact eo st hE 22 _
   obtain ⟨w554, hw554⟩ : ∃ z, z = (IntKind.wrap .i64 ((IntKind.wrap .i64 (Int.fdiv (IntKind.wrap .u64 (IntKind.wrap .i64 ((a : Int) + (b : Int)))) (2 ^ (min (Int.toNat 1) (IntKind.bits .u64))))) + (m : Int))) := ⟨_, rfl⟩
   have b555 : E544 19 = .int .i64 w554 := by rw [hw554]; exact eo st hE 19 _
   have b556 := eo st hE 2 (.int .i64 (m : Int))
   have b557 := eo st hE 1 (.int .i64 (a : Int))
   obtain ⟨w558, hw558⟩ : ∃ z, z = (IntKind.wrap .i64 (Int.fdiv (IntKind.wrap .u64 (IntKind.wrap .i64 ((a : Int) + (b : Int)))) (2 ^ (min (Int.toNat 1) (IntKind.bits .u64))))) := ⟨_, rfl⟩
   have b559 : E544 18 = .int .i64 w558 := by rw [hw558]; exact eo st hE 18 _
   have b560 := eo st hE 3 (.int .i64 (b : Int))
   have g561 : Grew H H544 := (gk st)
   have g562 : OnlyS S H H544 := (OnlyS.of_grew (Grew.refl H)).grewR g561
   have s563 := hS.grew g561
   have nw552 : w552 = (((((a + b) / 2 : Nat) : Int) + (m : Int)) - 1) := by
    rw [hw552, half_word a b om]
    rw [show (IntKind.wrap .i64 ((((a + b) / 2 : Nat) : Int) + (m : Int))) = (((a + b) / 2 : Nat) : Int) + (m : Int) from wrap_i64 om om]
    rw [show (IntKind.wrap .i64 (((((a + b) / 2 : Nat) : Int) + (m : Int)) - 1)) = ((((a + b) / 2 : Nat) : Int) + (m : Int)) - 1 from wrap_i64 om om]
   have nw554 : w554 = ((((a + b) / 2 : Nat) : Int) + (m : Int)) := by
    rw [hw554, half_word a b om]
    rw [show (IntKind.wrap .i64 ((((a + b) / 2 : Nat) : Int) + (m : Int))) = (((a + b) / 2 : Nat) : Int) + (m : Int) from wrap_i64 om om]
   have nw558 : w558 = (((a + b) / 2 : Nat) : Int) := by
    rw [hw558, half_word a b om]
   obtain ⟨k564, hk564⟩ : ∃ k : Nat, w558 = (k : Int) := ⟨Int.toNat w558, by omega⟩
   obtain ⟨k565, hk565⟩ : ∃ k : Nat, w554 = (k : Int) := ⟨Int.toNat w554, by omega⟩
   obtain ⟨k566, hk566⟩ : ∃ k : Nat, w552 = (k : Int) := ⟨Int.toNat w552, by omega⟩
   exact res_meet kr ⟨k564, k565, a, m, k566, b551, b557, b556, b560, b550, (b559.trans (by rw [hk564])), (b555.trans (by rw [hk565])), b548, b549, (b553.trans (by rw [hk566])), g562, s563, ⟨by omega, by omega, by omega, by omega⟩⟩
 ·
  rintro E1 Hx1 ⟨mid1, nn1, s1, r1, p1, c1_0, c1_1, c1_2, c1_3, c1_4, cv1_18, cv1_19, cv1_20, cv1_21, cv1_22, gt1, sp1_0, iv1⟩
  obtain ⟨hj1, hj2, hj3, hj4⟩ := iv1
  have q567 : KdsL [.one, KI, KI, KI, KI, KI, KI, KI, KI] [S, .int .i64 (a : Int), .int .i64 (m : Int), .int .i64 (b : Int), .int .i64 (mid1 : Int), .int .i64 (nn1 : Int), .int .i64 (s1 : Int), .int .i64 (r1 : Int), .int .i64 (p1 : Int)] := kL
  refine run_mc (φ := φ0) (pm := pmS 0 [] 0) 20 (ws := []) (env := [(0, n1 0), (1, nI 1), (2, nI 2), (3, nI 3), (4, .fn 87 [] []), (18, nI 4), (19, nI 5), (20, nI 6), (21, nI 7), (22, nI 8)]) q567 .nil (sepOk_ro rfl) .nil (eC q567 (.cons c1_0 (.cons c1_1 (.cons c1_2 (.cons c1_3 (.cons c1_4 (.cons cv1_18 (.cons cv1_19 (.cons cv1_20 (.cons cv1_21 (.cons cv1_22 .nil))))))))))) tbS_ok ap_ok ?_
  refine all1 kr fun vs ls H568 E568 st hE => ?_
  have b569 := eo st hE 20 (.int .i64 (s1 : Int))
  have b570 := eo st hE 21 (.int .i64 (r1 : Int))
  have b571 := eo st hE 4 (.func 87 [] [])
  have b572 := eo st hE 0 S
  have b573 := eo st hE 22 (.int .i64 (p1 : Int))
  have b574 := eo st hE 19 (.int .i64 (nn1 : Int))
  have b575 := eo st hE 2 (.int .i64 (m : Int))
  have b576 := eo st hE 1 (.int .i64 (a : Int))
  have b577 := eo st hE 18 (.int .i64 (mid1 : Int))
  have b578 := eo st hE 3 (.int .i64 (b : Int))
  have g579 : Grew Hx1 H568 := (gk st)
  have g580 : OnlyS S H H568 := gt1.grewR g579
  have s581 := sp1_0.grew g579
  refine res_loop kr (fun z E H' => ∃ (s582 : Nat) (r582 : Nat), z = r582 - s582 ∧ E 4 = .func 87 [] [] ∧ E 0 = S ∧ E 22 = .int .i64 (p1 : Int) ∧ E 19 = .int .i64 (nn1 : Int) ∧ E 2 = .int .i64 (m : Int) ∧ E 1 = .int .i64 (a : Int) ∧ E 18 = .int .i64 (mid1 : Int) ∧ E 3 = .int .i64 (b : Int) ∧ E 20 = .int .i64 (s582 : Int) ∧ E 21 = .int .i64 (r582 : Int) ∧ OnlyS S H H' ∧ SlF H' 4 L0 S ∧ a ≤ s582 ∧ s582 ≤ r582 ∧ r582 ≤ m ∧ r582 ≤ mid1 ∧ nn1 ≤ s582 + b ∧ (s582 = a ∨ s582 + b = nn1 ∨ tmR L0 (s582 - 1) ≤ tmR L0 (nn1 - s582)) ∧ (r582 = m ∨ r582 = mid1 ∨ tmR L0 (nn1 - 1 - r582) < tmR L0 r582)) (r1 - s1) ⟨s1, r1, rfl, b571, b572, b573, b574, b575, b576, b577, b578, b569, b570, g580, s581, ⟨by omega, by omega, by omega, by omega, by omega, by omega, by omega⟩⟩ ?_
  rintro z582 E582 Hx582 ⟨s582, r582, hz582, c582_4, c582_0, c582_22, c582_19, c582_2, c582_1, c582_18, c582_3, cv582_20, cv582_21, gt582, sp582_0, iv582⟩
  have hivs582 := iv582
  obtain ⟨hs1s582, hs2s582, hs3s582, hs4s582, hs5s582, _, _⟩ := iv582
  have q583 := q567.app (kL : KdsL [KI, KI] [.int .i64 (s582 : Int), .int .i64 (r582 : Int)])
  refine run_mc (φ := φ0) (pm := pmS 0 [] 0) 20 (ws := []) (env := [(4, .fn 87 [] []), (0, n1 0), (22, nI 8), (19, nI 5), (2, nI 2), (1, nI 1), (18, nI 4), (3, nI 3), (20, nI 9), (21, nI 10)]) q583 .nil (sepOk_ro rfl) .nil (eC q583 (.cons c582_4 (.cons c582_0 (.cons c582_22 (.cons c582_19 (.cons c582_2 (.cons c582_1 (.cons c582_18 (.cons c582_3 (.cons cv582_20 (.cons cv582_21 .nil))))))))))) tbS_ok ap_ok ?_
  refine all2 kr ?_ ?_
  ·
   intro vs ls H584 E584 st hE
   have f585 : (s582 : Int) < (r582 : Int) := dt st 0
   obtain ⟨w587, hw587⟩ : ∃ z, z = (IntKind.wrap .i64 ((p1 : Int) - (IntKind.wrap .i64 (Int.fdiv (IntKind.wrap .u64 (IntKind.wrap .i64 ((s582 : Int) + (r582 : Int)))) (2 ^ (min (Int.toNat 1) (IntKind.bits .u64))))))) := ⟨_, rfl⟩
   have b588 : E584 162 = .int .i64 w587 := by rw [hw587]; exact eo st hE 162 _
   obtain ⟨w590, hw590⟩ : ∃ z, z = (IntKind.wrap .i64 (Int.fdiv (IntKind.wrap .u64 (IntKind.wrap .i64 ((s582 : Int) + (r582 : Int)))) (2 ^ (min (Int.toNat 1) (IntKind.bits .u64))))) := ⟨_, rfl⟩
   have b591 : E584 23 = .int .i64 w590 := by rw [hw590]; exact eo st hE 23 _
   have B19 := es st hE [(159, S), (0, S), (158, .func 87 [] []), (20, .int .i64 (s582 : Int)), (4, .func 87 [] []), (22, .int .i64 (p1 : Int)), (19, .int .i64 (nn1 : Int)), (2, .int .i64 (m : Int)), (1, .int .i64 (a : Int)), (18, .int .i64 (mid1 : Int)), (3, .int .i64 (b : Int)), (21, .int .i64 (r582 : Int))]
   have g603 : Grew Hx582 H584 := (gk st)
   have g604 : OnlyS S H H584 := gt582.grewR g603
   have s605 := sp582_0.grew g603
   have nw587 : w587 = ((p1 : Int) - (((s582 + r582) / 2 : Nat) : Int)) := by
    rw [hw587, half_word s582 r582 om]
    rw [show (IntKind.wrap .i64 ((p1 : Int) - (((s582 + r582) / 2 : Nat) : Int))) = (p1 : Int) - (((s582 + r582) / 2 : Nat) : Int) from wrap_i64 om om]
   have nw590 : w590 = (((s582 + r582) / 2 : Nat) : Int) := by
    rw [hw590, half_word s582 r582 om]
   obtain ⟨k606, rfl⟩ : ∃ k : Nat, w587 = (k : Int) := ⟨Int.toNat w587, by omega⟩
   have hlt607 : k606 < L0.length := by omega
   obtain ⟨lS607, cap607, rest607, wr607, eS607, gS607⟩ := (s605.toL).isSl hlt607
   obtain ⟨v607_0, v607_1, v607_2, v607_3, hm607⟩ := partsReading (hr.get hlt607)
   have he607 : L0.getD k606 [] = [.int .i64 v607_0, .int .i16 v607_1, .int .i16 v607_2, .int .i16 v607_3] := by rw [← hm607, List.getD_eq_getElem?_getD, List.getElem?_eq_getElem hlt607]; rfl
   have q608 := q583.app (kL : KdsL [KI, KI, KI, .int .i16, .int .i16, .int .i16] [.int .i64 (k606 : Int), .int .i64 w590, .int .i64 v607_0, .int .i16 v607_1, .int .i16 v607_2, .int .i16 v607_3])
   refine run_mc (φ := φ0) (pm := pmS 1 [(.ia 4 (n1 0) (nI 11), .ptr 0 0)] 0) 20 (ws := [⟨lS607, (k606 * 4), [nI 13, .nd 14 (.int .i16), .nd 15 (.int .i16), .nd 16 (.int .i16)], false⟩]) (env := [(159, n1 0), (0, n1 0), (158, .fn 87 [] []), (20, nI 9), (4, .fn 87 [] []), (22, nI 8), (19, nI 5), (2, nI 2), (1, nI 1), (18, nI 4), (3, nI 3), (21, nI 10), (162, nI 11), (23, nI 12)]) q608 (.cons (win_elem hr gS607 hlt607 rfl (by rw [hm607]; exact (dL q608))) .nil) (sepOk_ro rfl) (.cons (rule_iaS (k := k606) (dE q608) eS607 (dE q608) hlt607 rfl) .nil) (eC q608 (sc B19 (.cons b588 (.cons b591 .nil)))) tbS_ok ap_ok ?_
   refine all1 kr fun vs ls H609 E609 st hE => ?_
   have B20 := es st hE [(165, S), (166, .int .i64 w590), (158, .func 87 [] []), (164, .agg [.int .i64 v607_0, .int .i16 v607_1, .int .i16 v607_2, .int .i16 v607_3]), (23, .int .i64 w590), (20, .int .i64 (s582 : Int)), (4, .func 87 [] []), (0, S), (22, .int .i64 (p1 : Int)), (19, .int .i64 (nn1 : Int)), (2, .int .i64 (m : Int)), (1, .int .i64 (a : Int)), (18, .int .i64 (mid1 : Int)), (3, .int .i64 (b : Int)), (21, .int .i64 (r582 : Int))]
   have g626 : Grew H584 H609 := (gk st)
   have g627 : OnlyS S H H609 := g604.grewR g626
   have s629 := s605.grew g626
   obtain ⟨k630, rfl⟩ : ∃ k : Nat, w590 = (k : Int) := ⟨Int.toNat w590, by omega⟩
   have hlt631 : k630 < L0.length := by omega
   obtain ⟨lS631, cap631, rest631, wr631, eS631, gS631⟩ := (s629.toL).isSl hlt631
   obtain ⟨v631_0, v631_1, v631_2, v631_3, hm631⟩ := partsReading (hr.get hlt631)
   have he631 : L0.getD k630 [] = [.int .i64 v631_0, .int .i16 v631_1, .int .i16 v631_2, .int .i16 v631_3] := by rw [← hm631, List.getD_eq_getElem?_getD, List.getElem?_eq_getElem hlt631]; rfl
   have q632 : KdsL [.one, KI, KI, KI, KI, KI, KI, KI, KI, KI, KI, KI, KI, KI, .int .i16, .int .i16, .int .i16, KI, .int .i16, .int .i16, .int .i16] [S, .int .i64 (a : Int), .int .i64 (m : Int), .int .i64 (b : Int), .int .i64 (mid1 : Int), .int .i64 (nn1 : Int), .int .i64 (s1 : Int), .int .i64 (r1 : Int), .int .i64 (p1 : Int), .int .i64 (s582 : Int), .int .i64 (r582 : Int), .int .i64 (k606 : Int), .int .i64 (k630 : Int), .int .i64 v607_0, .int .i16 v607_1, .int .i16 v607_2, .int .i16 v607_3, .int .i64 v631_0, .int .i16 v631_1, .int .i16 v631_2, .int .i16 v631_3] := kL
   refine run_mc (φ := φ0) (pm := pmS 1 [(.ia 4 (n1 0) (nI 12), .ptr 0 0)] 0) 20 (ws := [⟨lS631, (k630 * 4), [nI 17, .nd 18 (.int .i16), .nd 19 (.int .i16), .nd 20 (.int .i16)], false⟩]) (env := [(165, n1 0), (166, nI 12), (158, .fn 87 [] []), (164, .agg [nI 13, .nd 14 (.int .i16), .nd 15 (.int .i16), .nd 16 (.int .i16)]), (23, nI 12), (20, nI 9), (4, .fn 87 [] []), (0, n1 0), (22, nI 8), (19, nI 5), (2, nI 2), (1, nI 1), (18, nI 4), (3, nI 3), (21, nI 10)]) q632 (.cons (win_elem hr gS631 hlt631 rfl (by rw [hm631]; exact (dL q632))) .nil) (sepOk_ro rfl) (.cons (rule_iaS (k := k630) (dE q632) eS631 (dE q632) hlt631 rfl) .nil) (eC q632 B20) tbS_ok ap_ok ?_
   refine all3 kr ?_ ?_ ?_
   ·
    intro vs ls H633 E633 st hE
    have f634 : v607_0 < v631_0 := dt st 0
    have b635 := eo st hE 20 (.int .i64 (s582 : Int))
    have b636 := eo st hE 21 (.int .i64 (k630 : Int))
    have b637 := eo st hE 4 (.func 87 [] [])
    have b638 := eo st hE 0 S
    have b639 := eo st hE 22 (.int .i64 (p1 : Int))
    have b640 := eo st hE 19 (.int .i64 (nn1 : Int))
    have b641 := eo st hE 2 (.int .i64 (m : Int))
    have b642 := eo st hE 1 (.int .i64 (a : Int))
    have b643 := eo st hE 18 (.int .i64 (mid1 : Int))
    have b644 := eo st hE 3 (.int .i64 (b : Int))
    have g645 : Grew H609 H633 := (gk st)
    have g646 : OnlyS S H H633 := g627.grewR g645
    have s648 := s629.grew g645
    have tm607 : tmR L0 k606 = v607_0 := by unfold tmR; rw [he607]; rfl
    have tm631 : tmR L0 k630 = v631_0 := by unfold tmR; rw [he631]; rfl
    have hm9 : k630 - s582 < z582 := by omega
    exact res_norm kr ⟨k630 - s582, hm9, s582, k630, rfl, b637, b638, b639, b640, b641, b642, b643, b644, b635, b636, g646, s648, ⟨by omega, by omega, by omega, by omega, by omega, hivs582.2.2.2.2.2.1, .inr (.inr (by rw [show k630 = k630 by omega, show nn1 - 1 - k630 = k606 by omega]; omega))⟩⟩
   ·
    intro vs ls H649 E649 st hE
    have f650 : v631_0 < v607_0 := dt st 0
    have f651 : ¬ (v607_0 < v631_0) := df st 1
    obtain ⟨w652, hw652⟩ : ∃ z, z = (IntKind.wrap .i64 ((k630 : Int) + 1)) := ⟨_, rfl⟩
    have b653 : E649 20 = .int .i64 w652 := by rw [hw652]; exact eo st hE 20 _
    have b654 := eo st hE 21 (.int .i64 (r582 : Int))
    have b655 := eo st hE 4 (.func 87 [] [])
    have b656 := eo st hE 0 S
    have b657 := eo st hE 22 (.int .i64 (p1 : Int))
    have b658 := eo st hE 19 (.int .i64 (nn1 : Int))
    have b659 := eo st hE 2 (.int .i64 (m : Int))
    have b660 := eo st hE 1 (.int .i64 (a : Int))
    have b661 := eo st hE 18 (.int .i64 (mid1 : Int))
    have b662 := eo st hE 3 (.int .i64 (b : Int))
    have g663 : Grew H609 H649 := (gk st)
    have g664 : OnlyS S H H649 := g627.grewR g663
    have s666 := s629.grew g663
    have nw652 : w652 = ((k630 : Int) + 1) := by
     rw [hw652]
     rw [show (IntKind.wrap .i64 ((k630 : Int) + 1)) = (k630 : Int) + 1 from wrap_i64 om om]
    obtain ⟨k667, hk667⟩ : ∃ k : Nat, w652 = (k : Int) := ⟨Int.toNat w652, by omega⟩
    have tm607 : tmR L0 k606 = v607_0 := by unfold tmR; rw [he607]; rfl
    have tm631 : tmR L0 k630 = v631_0 := by unfold tmR; rw [he631]; rfl
    have hm9 : r582 - k667 < z582 := by omega
    exact res_norm kr ⟨r582 - k667, hm9, k667, r582, rfl, b655, b656, b657, b658, b659, b660, b661, b662, (b653.trans (by rw [hk667])), b654, g664, s666, ⟨by omega, by omega, by omega, by omega, by omega, .inr (.inr (by rw [show k667 - 1 = k630 by omega, show nn1 - k667 = k606 by omega]; omega)), hivs582.2.2.2.2.2.2⟩⟩
   ·
    intro vs ls H668 E668 st hE
    have f669 : ¬ (v631_0 < v607_0) := df st 0
    have f670 : ¬ (v607_0 < v631_0) := df st 1
    obtain ⟨w671, hw671⟩ : ∃ z, z = (IntKind.wrap .i64 ((k630 : Int) + 1)) := ⟨_, rfl⟩
    have b672 : E668 20 = .int .i64 w671 := by rw [hw671]; exact eo st hE 20 _
    have b673 := eo st hE 21 (.int .i64 (r582 : Int))
    have b674 := eo st hE 4 (.func 87 [] [])
    have b675 := eo st hE 0 S
    have b676 := eo st hE 22 (.int .i64 (p1 : Int))
    have b677 := eo st hE 19 (.int .i64 (nn1 : Int))
    have b678 := eo st hE 2 (.int .i64 (m : Int))
    have b679 := eo st hE 1 (.int .i64 (a : Int))
    have b680 := eo st hE 18 (.int .i64 (mid1 : Int))
    have b681 := eo st hE 3 (.int .i64 (b : Int))
    have g682 : Grew H609 H668 := (gk st)
    have g683 : OnlyS S H H668 := g627.grewR g682
    have s685 := s629.grew g682
    have nw671 : w671 = ((k630 : Int) + 1) := by
     rw [hw671]
     rw [show (IntKind.wrap .i64 ((k630 : Int) + 1)) = (k630 : Int) + 1 from wrap_i64 om om]
    obtain ⟨k686, hk686⟩ : ∃ k : Nat, w671 = (k : Int) := ⟨Int.toNat w671, by omega⟩
    have tm607 : tmR L0 k606 = v607_0 := by unfold tmR; rw [he607]; rfl
    have tm631 : tmR L0 k630 = v631_0 := by unfold tmR; rw [he631]; rfl
    have hm9 : r582 - k686 < z582 := by omega
    exact res_norm kr ⟨r582 - k686, hm9, k686, r582, rfl, b674, b675, b676, b677, b678, b679, b680, b681, (b672.trans (by rw [hk686])), b673, g683, s685, ⟨by omega, by omega, by omega, by omega, by omega, .inr (.inr (by rw [show k686 - 1 = k630 by omega, show nn1 - k686 = k606 by omega]; omega)), hivs582.2.2.2.2.2.2⟩⟩
  ·
   intro vs ls H687 E687 st hE
   have f688 : ¬ ((s582 : Int) < (r582 : Int)) := df st 0
   obtain ⟨w693, hw693⟩ : ∃ z, z = (decide ((s582 : Int) < (r582 : Int))) := ⟨_, rfl⟩
   have b694 : E687 151 = .bool w693 := by rw [hw693]; exact eo st hE 151 _
   have B21 := es st hE [(20, .int .i64 (s582 : Int)), (21, .int .i64 (r582 : Int)), (149, .int .i64 (s582 : Int)), (150, .int .i64 (r582 : Int)), (4, .func 87 [] []), (0, S), (22, .int .i64 (p1 : Int)), (19, .int .i64 (nn1 : Int)), (2, .int .i64 (m : Int)), (1, .int .i64 (a : Int)), (18, .int .i64 (mid1 : Int)), (3, .int .i64 (b : Int))]
   have g703 : Grew Hx582 H687 := (gk st)
   have g704 : OnlyS S H H687 := gt582.grewR g703
   have s705 := sp582_0.grew g703
   refine res_exit (id := 8) kr ?_
   have hsr : s582 = r582 := by omega
   have hc1 : s582 = a ∨ nn1 - s582 = b ∨ tmR L0 (s582 - 1) ≤ tmR L0 (nn1 - s582) := by have := hivs582.2.2.2.2.2.1; omega
   have hc2 : s582 = m ∨ nn1 - s582 = m ∨ tmR L0 (nn1 - s582 - 1) < tmR L0 s582 := by have := hivs582.2.2.2.2.2.2; rw [← hsr, show nn1 - 1 - s582 = nn1 - s582 - 1 by omega] at this; omega
   refine res_join 4 (fun E H' => ∃ (e706 : Nat) (R706 : List (List AV)), E 20 = .int .i64 (s582 : Int) ∧ E 4 = .func 87 [] [] ∧ E 0 = S ∧ E 1 = .int .i64 (a : Int) ∧ E 18 = .int .i64 (mid1 : Int) ∧ E 3 = .int .i64 (b : Int) ∧ E 24 = .int .i64 (e706 : Int) ∧ OnlyS S H H' ∧ SlF H' 4 R706 S ∧ Recs KR R706 ∧ e706 + s582 = nn1 ∧ R706 = rot L0 s582 m e706) kr ?_ ?_
   ·
    have q707 := q583.app (kL : KdsL [.bool] [.bool w693])
    refine run_mc (φ := φ0) (pm := pmS 0 [] 0) 20 (ws := []) (env := [(20, nI 9), (21, nI 10), (149, nI 9), (150, nI 10), (4, .fn 87 [] []), (0, n1 0), (22, nI 8), (19, nI 5), (2, nI 2), (1, nI 1), (18, nI 4), (3, nI 3), (151, nB 11)]) q707 .nil (sepOk_ro rfl) .nil (eC q707 (sc B21 (.cons b694 .nil))) tbS_ok ap_ok ?_
    refine all3 kr ?_ ?_ ?_
    ·
     intro vs ls H708 E708 st hE
     have f709 : (m : Int) < (IntKind.wrap .i64 ((nn1 : Int) - (s582 : Int))) := dt st 0
     rw [show (IntKind.wrap .i64 ((nn1 : Int) - (s582 : Int))) = (nn1 : Int) - (s582 : Int) from wrap_i64 om om] at f709
     have f710 : (s582 : Int) < (m : Int) := dt st 1
     have b711 := eo st hE 186 S
     have b712 := eo st hE 187 (.int .i64 (s582 : Int))
     have b713 := eo st hE 188 (.int .i64 (m : Int))
     obtain ⟨w714, hw714⟩ : ∃ z, z = (IntKind.wrap .i64 ((nn1 : Int) - (s582 : Int))) := ⟨_, rfl⟩
     have b715 : E708 189 = .int .i64 w714 := by rw [hw714]; exact eo st hE 189 _
     have b716 := eo st hE 190 (.func 87 [] [])
     have b722 : E708 24 = .int .i64 w714 := by rw [hw714]; exact eo st hE 24 _
     have B22 := es st hE [(186, S), (187, .int .i64 (s582 : Int)), (188, .int .i64 (m : Int)), (190, .func 87 [] []), (1, .int .i64 (a : Int)), (20, .int .i64 (s582 : Int)), (18, .int .i64 (mid1 : Int)), (0, S), (4, .func 87 [] []), (3, .int .i64 (b : Int))]
     have g724 : Grew H687 H708 := (gk st)
     have g725 : OnlyS S H H708 := g704.grewR g724
     have s726 := s705.grew g724
     have nw714 : w714 = ((nn1 : Int) - (s582 : Int)) := by
      rw [hw714]
      rw [show (IntKind.wrap .i64 ((nn1 : Int) - (s582 : Int))) = (nn1 : Int) - (s582 : Int) from wrap_i64 om om]
     obtain ⟨k727, hk727⟩ : ∃ k : Nat, w714 = (k : Int) := ⟨Int.toNat w714, by omega⟩
     refine res_call (d := (some 191)) (f := 137) (args := [.tmp 186, .tmp 187, .tmp 188, .tmp 189, .tmp 190]) kr (R := fun z H' => z = .tuple [] ∧ OnlyS S H708 H' ∧ ∃ M, SlF H' 4 M S ∧ Recs KR M ∧ M = rot L0 s582 m k727) ?_ ?_
     ·
      show ACalls _ _ [E708 186, E708 187, E708 188, E708 189, E708 190] _ _
      rw [b711, b712, b713, b715, b716]
      exact (by rw [hk727]; exact k_rotate H708 L0 hr S s726 om s582 m k727 om om om)
     rintro z H728 ⟨rfl, oo728, M728, s728, hr728, hp728⟩
     have g729 : OnlyS S H H728 := g725.trans oo728
     have q730 := q707.app (kL : KdsL [KI] [.int .i64 w714])
     refine run_mc (φ := φ0) (pm := pmS 0 [] 0) 20 (ws := []) (env := [(186, n1 0), (187, nI 9), (188, nI 2), (190, .fn 87 [] []), (1, nI 1), (20, nI 9), (18, nI 4), (0, n1 0), (4, .fn 87 [] []), (3, nI 3), (189, nI 12), (24, nI 12), (191, .tup [])]) q730 .nil (sepOk_ro rfl) .nil (eC q730 (sc (sp B22) (.cons (put_ne rfl b715) (.cons (put_ne rfl b722) (.cons put_same .nil))))) tbS_ok ap_ok ?_
     refine all1 kr fun vs ls H731 E731 st hE => ?_
     have b732 := eo st hE 1 (.int .i64 (a : Int))
     have b733 := eo st hE 20 (.int .i64 (s582 : Int))
     have b734 := eo st hE 18 (.int .i64 (mid1 : Int))
     have b735 := eo st hE 0 S
     have b736 := eo st hE 4 (.func 87 [] [])
     have b737 := eo st hE 24 (.int .i64 w714)
     have b738 := eo st hE 3 (.int .i64 (b : Int))
     have g739 : Grew H728 H731 := (gk st)
     have g740 : OnlyS S H H731 := g729.grewR g739
     have s741 := s728.grew g739
     obtain ⟨k742, hk742⟩ : ∃ k : Nat, w714 = (k : Int) := ⟨Int.toNat w714, by omega⟩
     exact res_meet kr ⟨k742, M728, b733, b736, b735, b732, b734, b738, (b737.trans (by rw [hk742])), g740, s741, hr728, ⟨by omega, by rw [hp728, show k727 = k742 by omega]⟩⟩
    ·
     intro vs ls H743 E743 st hE
     have f744 : ¬ ((m : Int) < (IntKind.wrap .i64 ((nn1 : Int) - (s582 : Int)))) := df st 0
     rw [show (IntKind.wrap .i64 ((nn1 : Int) - (s582 : Int))) = (nn1 : Int) - (s582 : Int) from wrap_i64 om om] at f744
     have f745 : (s582 : Int) < (m : Int) := dt st 1
     have b746 := eo st hE 1 (.int .i64 (a : Int))
     have b747 := eo st hE 20 (.int .i64 (s582 : Int))
     have b748 := eo st hE 18 (.int .i64 (mid1 : Int))
     have b749 := eo st hE 0 S
     have b750 := eo st hE 4 (.func 87 [] [])
     obtain ⟨w751, hw751⟩ : ∃ z, z = (IntKind.wrap .i64 ((nn1 : Int) - (s582 : Int))) := ⟨_, rfl⟩
     have b752 : E743 24 = .int .i64 w751 := by rw [hw751]; exact eo st hE 24 _
     have b753 := eo st hE 3 (.int .i64 (b : Int))
     have g754 : Grew H687 H743 := (gk st)
     have g755 : OnlyS S H H743 := g704.grewR g754
     have s756 := s705.grew g754
     have nw751 : w751 = ((nn1 : Int) - (s582 : Int)) := by
      rw [hw751]
      rw [show (IntKind.wrap .i64 ((nn1 : Int) - (s582 : Int))) = (nn1 : Int) - (s582 : Int) from wrap_i64 om om]
     obtain ⟨k757, hk757⟩ : ∃ k : Nat, w751 = (k : Int) := ⟨Int.toNat w751, by omega⟩
     have hrr : L0 = rot L0 s582 m k757 := by
      by_cases c9 : s582 = m
      ·
       rw [c9]; exact (rot_triv1 om om).symm
      ·
       rw [show k757 = m by omega]; exact (rot_triv2 om om).symm
     exact res_meet kr ⟨k757, L0, b747, b750, b749, b746, b748, b753, (b752.trans (by rw [hk757])), g755, s756, hr, ⟨by omega, hrr⟩⟩
    ·
     intro vs ls H758 E758 st hE
     have f759 : ¬ ((s582 : Int) < (m : Int)) := df st 0
     have b760 := eo st hE 1 (.int .i64 (a : Int))
     have b761 := eo st hE 20 (.int .i64 (s582 : Int))
     have b762 := eo st hE 18 (.int .i64 (mid1 : Int))
     have b763 := eo st hE 0 S
     have b764 := eo st hE 4 (.func 87 [] [])
     obtain ⟨w765, hw765⟩ : ∃ z, z = (IntKind.wrap .i64 ((nn1 : Int) - (s582 : Int))) := ⟨_, rfl⟩
     have b766 : E758 24 = .int .i64 w765 := by rw [hw765]; exact eo st hE 24 _
     have b767 := eo st hE 3 (.int .i64 (b : Int))
     have g768 : Grew H687 H758 := (gk st)
     have g769 : OnlyS S H H758 := g704.grewR g768
     have s770 := s705.grew g768
     have nw765 : w765 = ((nn1 : Int) - (s582 : Int)) := by
      rw [hw765]
      rw [show (IntKind.wrap .i64 ((nn1 : Int) - (s582 : Int))) = (nn1 : Int) - (s582 : Int) from wrap_i64 om om]
     obtain ⟨k771, hk771⟩ : ∃ k : Nat, w765 = (k : Int) := ⟨Int.toNat w765, by omega⟩
     have hrr : L0 = rot L0 s582 m k771 := by
      by_cases c9 : s582 = m
      ·
       rw [c9]; exact (rot_triv1 om om).symm
      ·
       rw [show k771 = m by omega]; exact (rot_triv2 om om).symm
     exact res_meet kr ⟨k771, L0, b761, b764, b763, b760, b762, b767, (b766.trans (by rw [hk771])), g769, s770, hr, ⟨by omega, hrr⟩⟩
   ·
    rintro E706 Hx706 ⟨e706, R706, c706_20, c706_4, c706_0, c706_1, c706_18, c706_3, cv706_24, gt706, so706_0, hr706_0, iv706⟩
    have hR : R706 = rot L0 s582 m e706 := iv706.2
    have hes : e706 = nn1 - s582 := by have := iv706.1; omega
    rw [← hes] at hc1 hc2
    have hlR : R706.length = L0.length := by rw [hR]; exact rot_len om om om
    have hSt : St a b L0 R706 := by rw [hR]; exact sy_St om om om om hbl hs1 hs2 hc2
    have hX1 : Srt a s582 R706 := by rw [hR]; exact sy_X1 om om om hs1
    have hY1 : Srt s582 mid1 R706 := by rw [hR]; exact sy_Y1 om om om om om hs2
    have hX2 : Srt mid1 e706 R706 := by rw [hR]; exact sy_X2 om om om om om hs1
    have hY2 : Srt e706 b R706 := by rw [hR]; exact sy_Y2 om om om hs2
    have hcr : ∀ p q, a ≤ p → p < mid1 → mid1 ≤ q → q < b → tmR R706 p ≤ tmR R706 q := by rw [hR]; exact sy_cross om om om om hbl om hs1 hs2 hc1 hc2
    refine res_join 2 (fun E H' => ∃ (R1772 : List (List AV)), E 4 = .func 87 [] [] ∧ E 0 = S ∧ E 18 = .int .i64 (mid1 : Int) ∧ E 3 = .int .i64 (b : Int) ∧ E 24 = .int .i64 (e706 : Int) ∧ OnlyS S H H' ∧ SlF H' 4 R1772 S ∧ Recs KR R1772 ∧ St a mid1 R706 R1772 ∧ Srt a mid1 R1772) kr ?_ ?_
    ·
     have q773 := q583.app (kL : KdsL [.bool, KI] [.bool w693, .int .i64 (e706 : Int)])
     refine run_mc (φ := φ0) (pm := pmS 0 [] 0) 20 (ws := []) (env := [(20, nI 9), (4, .fn 87 [] []), (0, n1 0), (1, nI 1), (18, nI 4), (3, nI 3), (24, nI 12)]) q773 .nil (sepOk_ro rfl) .nil (eC q773 (.cons c706_20 (.cons c706_4 (.cons c706_0 (.cons c706_1 (.cons c706_18 (.cons c706_3 (.cons cv706_24 .nil)))))))) tbS_ok ap_ok ?_
     refine all3 kr ?_ ?_ ?_
     ·
      intro vs ls H774 E774 st hE
      have f775 : (s582 : Int) < (mid1 : Int) := dt st 0
      have f776 : (a : Int) < (s582 : Int) := dt st 1
      have b777 := eo st hE 200 S
      have b778 := eo st hE 201 (.int .i64 (a : Int))
      have b779 := eo st hE 202 (.int .i64 (s582 : Int))
      have b780 := eo st hE 203 (.int .i64 (mid1 : Int))
      have b781 := eo st hE 204 (.func 87 [] [])
      have B23 := es st hE [(200, S), (201, .int .i64 (a : Int)), (202, .int .i64 (s582 : Int)), (203, .int .i64 (mid1 : Int)), (204, .func 87 [] []), (18, .int .i64 (mid1 : Int)), (24, .int .i64 (e706 : Int)), (3, .int .i64 (b : Int)), (0, S), (4, .func 87 [] [])]
      have g787 : Grew Hx706 H774 := (gk st)
      have g788 : OnlyS S H H774 := gt706.grewR g787
      have s789 := so706_0.grew g787
      refine res_call (d := (some 205)) (f := 130) (args := [.tmp 200, .tmp 201, .tmp 202, .tmp 203, .tmp 204]) kr (R := fun z H' => z = .tuple [] ∧ OnlyS S H774 H' ∧ ∃ M, SlF H' 4 M S ∧ Recs KR M ∧ St a mid1 R706 M ∧ Srt a mid1 M) ?_ ?_
      ·
       show ACalls _ _ [E774 200, E774 201, E774 202, E774 203, E774 204] _ _
       rw [b777, b778, b779, b780, b781]
       exact (ih H774 R706 hr706_0 S s789 om a s582 mid1 om om om om hX1 hY1)
      rintro z H790 ⟨rfl, oo790, M790, s790, hr790, hp790⟩
      have g791 : OnlyS S H H790 := g788.trans oo790
      have hlM790 : M790.length = R706.length := hp790.1.len
      refine run_mc (φ := φ0) (pm := pmS 0 [] 0) 20 (ws := []) (env := [(200, n1 0), (201, nI 1), (202, nI 9), (203, nI 4), (204, .fn 87 [] []), (18, nI 4), (24, nI 12), (3, nI 3), (0, n1 0), (4, .fn 87 [] []), (205, .tup [])]) q773 .nil (sepOk_ro rfl) .nil (eC q773 (sc (sp B23) (.cons put_same .nil))) tbS_ok ap_ok ?_
      refine all1 kr fun vs ls H793 E793 st hE => ?_
      have b794 := eo st hE 18 (.int .i64 (mid1 : Int))
      have b795 := eo st hE 24 (.int .i64 (e706 : Int))
      have b796 := eo st hE 3 (.int .i64 (b : Int))
      have b797 := eo st hE 0 S
      have b798 := eo st hE 4 (.func 87 [] [])
      have g799 : Grew H790 H793 := (gk st)
      have g800 : OnlyS S H H793 := g791.grewR g799
      have s801 := s790.grew g799
      exact res_meet kr ⟨M790, b798, b797, b794, b796, b795, g800, s801, hr790, hp790⟩
     ·
      intro vs ls H802 E802 st hE
      have f803 : ¬ ((s582 : Int) < (mid1 : Int)) := df st 0
      have f804 : (a : Int) < (s582 : Int) := dt st 1
      have b805 := eo st hE 18 (.int .i64 (mid1 : Int))
      have b806 := eo st hE 24 (.int .i64 (e706 : Int))
      have b807 := eo st hE 3 (.int .i64 (b : Int))
      have b808 := eo st hE 0 S
      have b809 := eo st hE 4 (.func 87 [] [])
      have g810 : Grew Hx706 H802 := (gk st)
      have g811 : OnlyS S H H802 := gt706.grewR g810
      have s812 := so706_0.grew g810
      have h1 : Srt a mid1 R706 := by
       by_cases c9 : s582 ≤ a
       ·
        rw [show a = s582 by omega]; exact hY1
       ·
        rw [show mid1 = s582 by omega]; exact hX1
      exact res_meet kr ⟨R706, b809, b808, b805, b807, b806, g811, s812, hr706_0, ⟨St.refl _ _ _, h1⟩⟩
     ·
      intro vs ls H813 E813 st hE
      have f814 : ¬ ((a : Int) < (s582 : Int)) := df st 0
      have b815 := eo st hE 18 (.int .i64 (mid1 : Int))
      have b816 := eo st hE 24 (.int .i64 (e706 : Int))
      have b817 := eo st hE 3 (.int .i64 (b : Int))
      have b818 := eo st hE 0 S
      have b819 := eo st hE 4 (.func 87 [] [])
      have g820 : Grew Hx706 H813 := (gk st)
      have g821 : OnlyS S H H813 := gt706.grewR g820
      have s822 := so706_0.grew g820
      have h1 : Srt a mid1 R706 := by
       by_cases c9 : s582 ≤ a
       ·
        rw [show a = s582 by omega]; exact hY1
       ·
        rw [show mid1 = s582 by omega]; exact hX1
      exact res_meet kr ⟨R706, b819, b818, b815, b817, b816, g821, s822, hr706_0, ⟨St.refl _ _ _, h1⟩⟩
    ·
     rintro E772 Hx772 ⟨R1772, c772_4, c772_0, c772_18, c772_3, c772_24, gt772, so772_0, hr772_0, iv772⟩
     have hlR1 : R1772.length = R706.length := iv772.1.len
     have hX2b : Srt mid1 e706 R1772 := hX2.same fun k c1 c2 => by unfold tmR; rw [iv772.1.out k (.inr c1)]
     have hY2b : Srt e706 b R1772 := hY2.same fun k c1 c2 => by unfold tmR; rw [iv772.1.out k (.inr om)]
     have q823 := q583.app (kL : KdsL [.bool, KI] [.bool w693, .int .i64 (e706 : Int)])
     refine run_mc (φ := φ0) (pm := pmS 0 [] 0) 20 (ws := []) (env := [(4, .fn 87 [] []), (0, n1 0), (18, nI 4), (3, nI 3), (24, nI 12)]) q823 .nil (sepOk_ro rfl) .nil (eC q823 (.cons c772_4 (.cons c772_0 (.cons c772_18 (.cons c772_3 (.cons c772_24 .nil)))))) tbS_ok ap_ok ?_
     refine all3 kr ?_ ?_ ?_
     ·
      intro vs ls H824 E824 st hE
      have f825 : (e706 : Int) < (b : Int) := dt st 0
      have f826 : (mid1 : Int) < (e706 : Int) := dt st 1
      have b827 := eo st hE 214 S
      have b828 := eo st hE 215 (.int .i64 (mid1 : Int))
      have b829 := eo st hE 216 (.int .i64 (e706 : Int))
      have b830 := eo st hE 217 (.int .i64 (b : Int))
      have b831 := eo st hE 218 (.func 87 [] [])
      have B24 := es st hE [(214, S), (215, .int .i64 (mid1 : Int)), (216, .int .i64 (e706 : Int)), (217, .int .i64 (b : Int)), (218, .func 87 [] [])]
      have g832 : Grew Hx772 H824 := (gk st)
      have g833 : OnlyS S H H824 := gt772.grewR g832
      have s834 := so772_0.grew g832
      refine res_call (d := (some 219)) (f := 130) (args := [.tmp 214, .tmp 215, .tmp 216, .tmp 217, .tmp 218]) kr (R := fun z H' => z = .tuple [] ∧ OnlyS S H824 H' ∧ ∃ M, SlF H' 4 M S ∧ Recs KR M ∧ St mid1 b R1772 M ∧ Srt mid1 b M) ?_ ?_
      ·
       show ACalls _ _ [E824 214, E824 215, E824 216, E824 217, E824 218] _ _
       rw [b827, b828, b829, b830, b831]
       exact (ih H824 R1772 hr772_0 S s834 om mid1 e706 b om om om om hX2b hY2b)
      rintro z H835 ⟨rfl, oo835, M835, s835, hr835, hp835⟩
      have g836 : OnlyS S H H835 := g833.trans oo835
      have hlM835 : M835.length = R1772.length := hp835.1.len
      refine run_mc (φ := φ0) (pm := pmS 0 [] 0) 20 (ws := []) (env := [(214, n1 0), (215, nI 4), (216, nI 12), (217, nI 3), (218, .fn 87 [] []), (219, .tup [])]) q823 .nil (sepOk_ro rfl) .nil (eC q823 (sc (sp B24) (.cons put_same .nil))) tbS_ok ap_ok ?_
      refine all1 kr fun vs ls H838 E838 st hE => ?_
      have gz : OnlyS S H H838 := (g836.grewR (gk st))
      exact res_ex kr (end_same st.inn hE (.inl rfl) (a := .tuple []) kr gz.next ⟨rfl, gz, _, (s835.grew (st.inn.kept.grew (Nat.le_refl _))), hr835, sy_fin om om hbl hSt hcr iv772.1 iv772.2 hp835.1 hp835.2⟩)
     ·
      intro vs ls H839 E839 st hE
      have f840 : ¬ ((e706 : Int) < (b : Int)) := df st 0
      have f841 : (mid1 : Int) < (e706 : Int) := dt st 1
      have gz : OnlyS S H H839 := (gt772.grewR (gk st))
      have h2 : St mid1 b R1772 R1772 ∧ Srt mid1 b R1772 := ⟨St.refl _ _ _, by
       by_cases c9 : e706 ≤ mid1
       ·
        rw [show mid1 = e706 by omega]; exact hY2b
       ·
        rw [show b = e706 by omega]; exact hX2b⟩
      exact res_ex kr (end_same st.inn hE (.inl rfl) (a := .tuple []) kr gz.next ⟨rfl, gz, _, (so772_0.grew (st.inn.kept.grew (Nat.le_refl _))), hr772_0, sy_fin om om hbl hSt hcr iv772.1 iv772.2 h2.1 h2.2⟩)
     ·
      intro vs ls H842 E842 st hE
      have f843 : ¬ ((mid1 : Int) < (e706 : Int)) := df st 0
      have gz : OnlyS S H H842 := (gt772.grewR (gk st))
      have h2 : St mid1 b R1772 R1772 ∧ Srt mid1 b R1772 := ⟨St.refl _ _ _, by
       by_cases c9 : e706 ≤ mid1
       ·
        rw [show mid1 = e706 by omega]; exact hY2b
       ·
        rw [show b = e706 by omega]; exact hX2b⟩
      exact res_ex kr (end_same st.inn hE (.inl rfl) (a := .tuple []) kr gz.next ⟨rfl, gz, _, (so772_0.grew (st.inn.kept.grew (Nat.le_refl _))), hr772_0, sy_fin om om hbl hSt hcr iv772.1 iv772.2 h2.1 h2.2⟩)
theorem k_symN : ∀ N, SymP N
 | 0 => fun H L0 hr S hS hmx a m b h1 h2 h3 h4 _ _ => by omega
 | N + 1 => k_symS (k_symN N)
end Go.Proofs.Ytnleibiniajbnaa
