/- Contracts: bytes behind one another: numbers in a list, sums, copies, comparisons. -/
import Derived.Test.YtnleibiniajbnaaTReadB
import Derived.Test.YtnleibiniajbnaaSxE
set_option linter.unusedVariables false
set_option linter.unusedSimpArgs false
namespace Go.Proofs.Ytnleibiniajbnaa
open Go.Ab
set_option maxRecDepth 100000
set_option maxHeartbeats 1000000
attribute [local irreducible] Res
def byN (ms : List (List AV)) (k : Nat) : Nat := (timeR (ms.getD k [])).toNat
theorem rngParts {ms : List (List AV)} (h : RngB ms) {k : Nat} (hk : k < ms.length) : ∃ v0 : Nat, ms[k] = [.int .u8 (v0 : Int)] ∧ v0 < 256 := by
 obtain ⟨b, e, h0, h1⟩ := h ms[k] (List.getElem_mem hk)
 exact ⟨b.toNat, by rw [e, show ((b.toNat : Nat) : Int) = b by omega], by omega⟩
theorem byN_at {ms : List (List AV)} {k v : Nat} (h : ms.getD k [] = [.int .u8 (v : Int)]) : byN ms k = v := by
 unfold byN; rw [h]; rfl
theorem byN_get {ms : List (List AV)} (h : RngB ms) {k : Nat} (hk : k < ms.length) : ms[k] = [.int .u8 (byN ms k : Int)] ∧ byN ms k < 256 := by
 obtain ⟨v, e, hv⟩ := rngParts h hk
 have : byN ms k = v := byN_at (by rw [← e, List.getD_eq_getElem?_getD, List.getElem?_eq_getElem hk]; rfl)
 rw [this]; exact ⟨e, hv⟩
theorem byN_cut {ms : List (List AV)} (h : RngB ms) (o n : Nat) (hn : o + n ≤ ms.length) (rest : List AV) : ∃ pre post, ms.flatten ++ rest = pre ++ (((List.range n).map fun i => AV.int .u8 (byN ms (o + i) : Int)) ++ post) ∧ pre.length = o := by
 refine ⟨(ms.take o).flatten, (ms.drop (o + n)).flatten ++ rest, ?_, ?_⟩
 ·
  have e1 : ms = ms.take o ++ ((ms.drop o).take n ++ ms.drop (o + n)) := by
   rw [← List.drop_drop, List.take_append_drop, List.take_append_drop]
  have e2 : ((ms.drop o).take n).flatten = (List.range n).map fun i => AV.int .u8 (byN ms (o + i) : Int) := by
   have : (ms.drop o).take n = (List.range n).map fun i => [AV.int .u8 (byN ms (o + i) : Int)] := by
    apply List.ext_getElem
    ·
     simp; omega
    ·
     intro i h1 h2
     have hi : i < n := by simpa using h2
     rw [List.getElem_take, List.getElem_drop, List.getElem_map, List.getElem_range]
     exact (byN_get h om).1
   rw [this, show (List.range n).map (fun i => [AV.int .u8 (byN ms (o + i) : Int)]) = ((List.range n).map fun i => AV.int .u8 (byN ms (o + i) : Int)).map (fun a => [a]) from by rw [List.map_map]; rfl, single_flat]
  conv => lhs; rw [e1]
  rw [List.flatten_append, List.flatten_append, e2]
  simp only [List.append_assoc]
 ·
  have := flat_len_z (z := 1) (ms := ms.take o) (fun m hm => by obtain ⟨b, e, _⟩ := h m (List.mem_of_mem_take hm); rw [e]; rfl)
  rw [this, List.length_take]; omega
def num2 (ms : List (List AV)) (o : Nat) : Int := (byN ms o : Int) + 256 * (byN ms (o + 1) : Int)
def num4 (ms : List (List AV)) (o : Nat) : Int := (byN ms o : Int) + 256 * (byN ms (o + 1) : Int) + 65536 * (byN ms (o + 2) : Int) + 16777216 * (byN ms (o + 3) : Int)
theorem k_num2 (H : AHeap) (ms : List (List AV)) (hg : RngB ms) (l cap : Nat) (rest : List AV) (wr : Bool) (row : H.get l = some (.row (ms.flatten ++ rest) wr)) (o : Nat) (h : o + 2 ≤ ms.length) : APure Try.prog 80 [.slice l o 2 cap 1] H (.int .i64 (num2 ms o)) := by
 obtain ⟨pre, post, e, hp⟩ := byN_cut hg o 2 h rest
 rw [e] at row
 exact k_number2 H l o cap (byN ms o) (byN ms (o + 1)) (byN_get hg om).2 (byN_get hg om).2 wr pre post row hp
theorem k_num4 (H : AHeap) (ms : List (List AV)) (hg : RngB ms) (l cap : Nat) (rest : List AV) (wr : Bool) (row : H.get l = some (.row (ms.flatten ++ rest) wr)) (o : Nat) (h : o + 4 ≤ ms.length) : APure Try.prog 80 [.slice l o 4 cap 1] H (.int .i64 (num4 ms o)) := by
 obtain ⟨pre, post, e, hp⟩ := byN_cut hg o 4 h rest
 rw [e] at row
 exact k_number4 H l o cap (byN ms o) (byN ms (o + 1)) (byN ms (o + 2)) (byN ms (o + 3)) (byN_get hg om).2 (byN_get hg om).2 (byN_get hg om).2 (byN_get hg om).2 wr pre post row hp
def sumB (ms : List (List AV)) : Nat → Int
 | 0 => 0
 | i + 1 => sumB ms i + timeR (ms.getD i [])
theorem sumB_rng {ms : List (List AV)} (h : RngB ms) : ∀ i, i ≤ ms.length → 0 ≤ sumB ms i ∧ sumB ms i ≤ 255 * (i : Int)
 | 0, _ => ⟨Int.le_refl _, by simp [sumB]⟩
 | i + 1, hi => by
  have ih := sumB_rng h i om
  obtain ⟨v, e, hv⟩ := rngParts h (show i < ms.length by omega)
  have e2 : timeR (ms.getD i []) = (v : Int) := by rw [List.getD_eq_getElem?_getD, List.getElem?_eq_getElem (show i < ms.length by omega)]; show timeR ms[i] = _; rw [e]; rfl
  unfold sumB
  rw [e2]
  push_cast
  omega
theorem sumB_step {ms : List (List AV)} {i v : Nat} (h : ms.getD i [] = [.int .u8 (v : Int)]) : sumB ms (i + 1) = sumB ms i + (v : Int) := by
 show sumB ms i + timeR (ms.getD i []) = _
 rw [h]; rfl
def chk2 (n : Int) : List (List AV) := [[.int .u8 (n % 256)], [.int .u8 (n / 256)]]
theorem chk2_len (n : Int) : (chk2 n).length = 2 := rfl
theorem chk2_rng {n : Int} (h0 : 0 ≤ n) (h1 : n < 65536) : RngB (chk2 n) := by
 intro m hm
 simp only [chk2, List.mem_cons, List.not_mem_nil, or_false] at hm
 rcases hm with rfl | rfl
 ·
  exact ⟨_, rfl, by omega, by omega⟩
 ·
  exact ⟨_, rfl, by omega, by omega⟩
theorem RngB.app {a b : List (List AV)} (h : RngB a) (k : RngB b) : RngB (a ++ b) := fun m hm => (List.mem_append.1 hm).elim (h m) (k m)
theorem wr_u8 (n : Int) : IntKind.wrap .u8 n = n % 256 := by
 simp only [IntKind.wrap]
 rfl
theorem k_little2 (H : AHeap) (n : Int) (h0 : 0 ≤ n) (h1 : n < 65536) : ACalls Try.prog 106 [.int .i64 n, .int .i64 2] H fun r H' => Grew H H' ∧ SlF H' 1 (chk2 n) r ∧ FreshS H.next r := by
 refine res_start h_impl_little (by simp) ?_
 have q1 : KdsL [KI] [.int .i64 n] := kL
 refine rC 0 5 [] [(0, nI 0), (1, .lit (.int .i64 2))] q1 (.cons (t := 0) rfl (.cons (t := 1) rfl .nil)) ?_
 refine all1 kr fun vs ls H2 E2 st hE => ?_
 obtain ⟨p3, e4, r5, n6⟩ := sl_of st.inn hE 10 0 0 0 1 kr (ds := []) kr
 have op3 : H.next ≤ p3 := Nat.le_trans (Nat.le_refl _) (oM n6)
 obtain ⟨w7, hw7⟩ : ∃ z, z = (IntKind.wrap .u8 n) := ⟨_, rfl⟩
 obtain ⟨p8, e9, r10, n11⟩ := sl_of st.inn hE 13 1 1 1 1 kr (ds := [.int .u8 (IntKind.wrap .u8 n)]) kr
 rw [← hw7] at r10
 have op8 : H.next ≤ p8 := Nat.le_trans (Nat.le_refl _) (oM n11)
 have ne12 : Apart p3 p8 := ⟨row_ne st.inn hE 10 13 0 1 (v := .sl 0 0 0 0 1) (v' := .sl 1 0 1 1 1) kr kr rfl rfl (cs := []) kr (by decide) e4 e9 rfl rfl⟩
 -- temp 5: ('sl', 0, 0, 0, 0, 1)
 have B1 := es st hE [(0, .int .i64 n), (8, .int .i64 0), (7, .int .i64 2), (9, .bool true), (11, .int .i64 n)]
 have b18 : E2 12 = .int .u8 w7 := by rw [hw7]; exact eo st hE 12 _
 have g19 : Grew H H2 := (gk st)
 have g20 : Grew H H2 := Grew.trans (Grew.refl _) g19
 have sx23 : SlF H2 1 [] (.slice p3 0 0 0 1) := .sl (by simpa using r5) rfl (Nat.le_refl _)
 refine res_append0 (d := (some 14)) (sz := 1) (bytes := 1) (x := .tmp 10) (y := .tmp 13) kr (S := .slice p3 0 0 0 1) (ys := [[.int .u8 w7]]) (by show E2 10 = _; exact e4) sx23 (.inr ⟨_, rfl⟩) (by show srcCells _ _ (E2 13) = _; rw [e9]; exact src_one r10 rfl) (recs_one (ks := KB) (Recs.one (ks := KB) (.cons kA .nil)) rfl) (by first | omega | (simp only [List.length_append, List.length_cons, List.length_nil, chk2_len]; omega)) ?_
 intro S21 H22 sS21 fS21 oS21
 have ne24 := aL fS21 r10 (ApartL.of aS)
 have fr25 : FreshS H.next (S21) := fS21.fresh (FreshS.of_le op3) g20.next
 have g26 := Grew.trans g20 oS21
 have r28 := oS21.at r10
 have q29 := q1.app (kL : KdsL [.int .u8, .one] [.int .u8 w7, S21])
 refine run_mc (φ := φ0) (pm := pmR 1 [] 5) 20 (ws := [wf p8 [.nd 1 (.int .u8)]]) (env := [(0, nI 0), (8, .lit (.int .i64 0)), (7, .lit (.int .i64 2)), (9, .lit (.bool true)), (11, nI 0), (13, .sl 0 0 1 1 1), (12, .nd 1 (.int .u8)), (14, n1 2)]) q29 (.cons (wR r28 q29) .nil) (sepOk_ro rfl) .nil (eC q29 (sc (sp B1) (.cons (put_ne rfl e9) (.cons (put_ne rfl b18) (.cons put_same .nil))))) tb_ok ap_ok ?_
 refine all1 kr fun vs ls H30 E30 st hE => ?_
 obtain ⟨w31, hw31⟩ : ∃ z, z = (IntKind.wrap .u8 (Int.fdiv n (2 ^ (min (Int.toNat 8) (IntKind.bits .i64))))) := ⟨_, rfl⟩
 obtain ⟨p32, e33, r34, n35⟩ := sl_of st.inn hE 13 1 1 1 1 kr (ds := [.int .u8 (IntKind.wrap .u8 (Int.fdiv n (2 ^ (min (Int.toNat 8) (IntKind.bits .i64)))))]) kr
 rw [← hw31] at r34
 have op32 : H.next ≤ p32 := Nat.le_trans g26.next (oM n35)
 have ne36 := apn r28 (oM n35)
 have ne37 : ApartL (S21) p32 := sS21.apart_new (oM n35)
 have b38 := eo st hE 10 S21
 obtain ⟨w40, hw40⟩ : ∃ z, z = (Int.fdiv n (2 ^ (min (Int.toNat 8) (IntKind.bits .i64)))) := ⟨_, rfl⟩
 have b41 : E30 0 = .int .i64 w40 := by rw [hw40]; exact eo st hE 0 _
 have b43 : E30 16 = .int .i64 w40 := by rw [hw40]; exact eo st hE 16 _
 have B2 := es st hE [(10, S21), (15, .int .i64 n), (8, .int .i64 1), (17, .int .i64 1), (7, .int .i64 2), (9, .bool true), (5, S21)]
 have b49 : E30 11 = .int .i64 w40 := by rw [hw40]; exact eo st hE 11 _
 have b50 : E30 12 = .int .u8 w31 := by rw [hw31]; exact eo st hE 12 _
 have g51 : Grew H22 H30 := (gk st)
 have g52 := Grew.trans g26 g51
 have s54 := sS21.grew g51
 refine res_append (d := (some 14)) (sz := 1) (bytes := 1) (x := .tmp 10) (y := .tmp 13) kr (S := S21) (ms := [[.int .u8 w7]]) (ys := [[.int .u8 w31]]) (by show E30 10 = _; exact b38) s54 (Recs.one (ks := KB) (.cons kA .nil)).len (by show srcCells _ _ (E30 13) = _; rw [e33]; exact src_one r34 rfl) (recs_one (ks := KB) (Recs.one (ks := KB) (.cons kA .nil)) rfl) (by first | omega | (simp only [List.length_append, List.length_cons, List.length_nil, chk2_len]; omega)) ?_
 intro S55 H56 sS55 fS55 oS55
 have ne57 := aL fS55 r34 am
 have fr58 : FreshS H.next (S55) := fS55.fresh fr25 g52.next
 have g59 : Grew H H56 := OnlyS.own g52 fr25 oS55
 have r60 := oS55.at r34 am
 have q61 := q29.app (kL : KdsL [.int .u8, KI, .one] [.int .u8 w31, .int .i64 w40, S55])
 refine run_mc (φ := φ0) (pm := pmR 1 [] 5) 20 (ws := [wf p32 [.nd 3 (.int .u8)]]) (env := [(10, n1 2), (15, nI 0), (8, .lit (.int .i64 1)), (17, .lit (.int .i64 1)), (7, .lit (.int .i64 2)), (9, .lit (.bool true)), (5, n1 2), (13, .sl 0 0 1 1 1), (0, nI 4), (16, nI 4), (11, nI 4), (12, .nd 3 (.int .u8)), (14, n1 5)]) q61 (.cons (wR r60 q61) .nil) (sepOk_ro rfl) .nil (eC q61 (sc (sp B2) (.cons (put_ne rfl e33) (.cons (put_ne rfl b41) (.cons (put_ne rfl b43) (.cons (put_ne rfl b49) (.cons (put_ne rfl b50) (.cons put_same .nil)))))))) tb_ok ap_ok ?_
 refine all1 kr fun vs ls H62 E62 st hE => ?_
 have gz : Grew H H62 := (Grew.trans g59 (gk st))
 have sz := (sS55.grew (st.inn.kept.grew (Nat.le_refl _)))
 have q9 : ([[.int .u8 w7]] ++ [[.int .u8 w31]]) = chk2 n := by
  have h1 : IntKind.wrap .u8 n = n % 256 := wr_u8 n
  unfold chk2; rw [hw7, hw31, wr_u8, wr_u8]
  have h2 : (n.fdiv (2 ^ (min (Int.toNat 8) (IntKind.bits .i64)))) % 256 = n / 256 := by
   show (n.fdiv 256) % 256 = n / 256
   rw [Int.fdiv_eq_ediv_of_nonneg _ (by decide)]; omega
  rw [h2]; rfl
 exact re st hE (S55) gz.next ⟨gz, by rw [← q9]; exact sz, fr58⟩
theorem k_checked (H0 H : AHeap) (g0 : Grew H0 H) (ms : List (List AV)) (hg : RngB ms) (hmx : ms.length < 2 ^ 20) (S : AV) (hS : SlF H 1 ms S) (fS : FreshS H0.next S) : ACalls Try.prog 81 [S] H fun r H' => Grew H0 H' ∧ SlF H' 1 (ms ++ chk2 (sumB ms ms.length % 65521)) r ∧ FreshS H0.next r := by
 refine res_start h_impl_checked (by simp) ?_
 have q1 : KdsL [.one, KI] [S, .int .i64 (ms.length : Int)] := kL
 refine rD 0 0 [(.len (n1 0), nI 1)] [] [(0, n1 0)] q1 (.cons (⟨_, _, (dE q1), (dE q1), slLen (hS.toL)⟩) .nil) (.cons (t := 0) rfl .nil) ?_
 refine all1 kr fun vs ls H2 E2 st hE => ?_
 have b3 := eo st hE 8 (.int .i64 0)
 have b4 := eo st hE 7 (.int .i64 (ms.length : Int))
 have b5 := eo st hE 6 S
 have b6 := eo st hE 3 (.int .i64 0)
 have b7 := eo st hE 0 S
 have g8 : Grew H H2 := (gk st)
 have g9 := Grew.trans g0 g8
 have s10 := hS.grew g8
 refine res_scanv kr (fun i => [(7, .int .i64 (ms.length : Int)), (6, S), (3, .int .i64 (sumB ms i)), (0, S)]) 8 0 ms.length (fun i => True) (Nat.zero_le _) (.cons b4 (.cons b5 (.cons b6 (.cons b7 .nil)))) b3 (Grew.refl _) trivial ?_
 intro i11 hoi11 hli11 hIi11 Ei11 Hi11 hsi11 hci11 hgi11
 have g12 := Grew.trans g9 hgi11
 have s13 := s10.grew hgi11
 have q14 := q1.app (kL : KdsL [KI, KI] [.int .i64 (sumB ms i11), .int .i64 (i11 : Int)])
 refine rC 0 0 [] [(7, nI 1), (6, n1 0), (3, nI 2), (0, n1 0), (8, nI 3)] q14 (.cons (hsi11.at 0 rfl) (.cons (hsi11.at 1 rfl) (.cons (hsi11.at 2 rfl) (.cons (hsi11.at 3 rfl) (.cons hci11 .nil))))) ?_
 refine all2 kr ?_ ?_
 ·
  intro vs ls H15 E15 st hE
  have f16 : (i11 : Int) < (ms.length : Int) := dt st 0
  have B1 := es st hE [(6, S), (8, .int .i64 (i11 : Int)), (3, .int .i64 (sumB ms i11)), (7, .int .i64 (ms.length : Int)), (0, S)]
  have g22 : Grew Hi11 H15 := (gk st)
  have g24 := Grew.trans hgi11 g22
  have s25 := s13.grew g22
  have hlt26 : i11 < ms.length := by omega
  obtain ⟨lS26, cap26, rest26, wr26, eS26, gS26⟩ := (s25.toL).isSl hlt26
  obtain ⟨v26_0, hm26, hb26⟩ := (rngParts hg hlt26)
  have he26 : ms.getD i11 [] = [.int .u8 (v26_0 : Int)] := by rw [← hm26, List.getD_eq_getElem?_getD, List.getElem?_eq_getElem hlt26]; rfl
  have q27 := q14.app (kL : KdsL [.int .u8] [.int .u8 (v26_0 : Int)])
  refine run_mc (φ := φ0) (pm := pmR 1 [(.ia 1 (n1 0) (nI 3), .ptr 0 0)] 0) 20 (ws := [⟨lS26, (i11 * 1), [.nd 4 (.int .u8)], false⟩]) (env := [(6, n1 0), (8, nI 3), (3, nI 2), (7, nI 1), (0, n1 0)]) q27 (.cons (win_elem hg.recs gS26 hlt26 rfl (by rw [hm26]; exact (dL q27))) .nil) (sepOk_ro rfl) (.cons (rule_iaS (k := i11) (dE q27) eS26 (dE q27) hlt26 rfl) .nil) (eC q27 B1) tb_ok ap_ok ?_
  refine all1 kr fun vs ls H28 E28 st hE => ?_
  have hlti11 : i11 < ms.length := by omega
  refine res_nextv (sl := fun i => [(7, .int .i64 (ms.length : Int)), (6, S), (3, .int .i64 (sumB ms i)), (0, S)]) (sl' := [(7, .int .i64 (ms.length : Int)), (6, S), (3, .int .i64 (IntKind.wrap .i64 ((sumB ms i11) + (IntKind.wrap .i64 (v26_0 : Int))))), (0, S)]) (ti := 8) (i := i11) (Inv := fun i => True) kr st.inn hE hlti11 kr ?_ (w := (IntKind.wrap .i64 ((i11 : Int) + 1))) kr (wrap64 om) (Grew.trans g24 (gk st)) ?_
  have hb9 := sumB_rng hg i11 om
  have hn9 : (IntKind.wrap .i64 ((sumB ms i11) + (IntKind.wrap .i64 (v26_0 : Int)))) = sumB ms (i11 + 1) := by
   rw [sumB_step he26, show IntKind.wrap .i64 (v26_0 : Int) = (v26_0 : Int) from wrap_i64 om om]; exact wrap_i64 om om
  ·
   show _ = [_, _, _, _]; rw [hn9]
  trivial
 ·
  intro vs ls H29 E29 st hE
  have f30 : ¬ ((i11 : Int) < (ms.length : Int)) := df st 0
  obtain ⟨w33, hw33⟩ : ∃ z, z = (decide ((i11 : Int) < (ms.length : Int))) := ⟨_, rfl⟩
  have b34 : E29 9 = .bool w33 := by rw [hw33]; exact eo st hE 9 _
  have B2 := es st hE [(8, .int .i64 (i11 : Int)), (7, .int .i64 (ms.length : Int)), (6, S), (3, .int .i64 (sumB ms i11)), (0, S)]
  have g38 : Grew Hi11 H29 := (gk st)
  have g39 := Grew.trans g12 g38
  have g40 := Grew.trans hgi11 g38
  have s41 := s13.grew g38
  refine res_exit (id := 0) kr ?_
  have hs0 : 0 ≤ sumB ms i11 := (sumB_rng hg _ om).1
  have q42 := q14.app (kL : KdsL [.bool] [.bool w33])
  refine rC 0 0 [] [(8, nI 3), (7, nI 1), (6, n1 0), (3, nI 2), (0, n1 0), (9, nB 4)] q42 (sc B2 (.cons b34 .nil)) ?_
  refine all1 kr fun vs ls H43 E43 st hE => ?_
  obtain ⟨w44, hw44⟩ : ∃ z, z = (Int.tmod (sumB ms i11) 65521) := ⟨_, rfl⟩
  have b45 : E43 19 = .int .i64 w44 := by rw [hw44]; exact eo st hE 19 _
  have b46 := eo st hE 17 S
  have g47 : Grew H29 H43 := (gk st)
  have g48 := Grew.trans g39 g47
  have s49 := s41.grew g47
  have hn0 : 0 ≤ w44 := by rw [hw44]; first | (rw [Int.tmod_eq_emod_of_nonneg hs0]; omega) | omega
  have hn1 : w44 < 65536 := by rw [hw44]; first | (rw [Int.tmod_eq_emod_of_nonneg hs0]; omega) | omega
  refine res_call (d := (some 20)) (f := 106) (args := [.tmp 19, .const (.int .i64 2)]) kr (R := fun z H' => Grew H43 H' ∧ SlF H' 1 (chk2 w44) z ∧ FreshS H43.next z) ?_ ?_
  ·
   show ACalls _ _ [E43 19, .int .i64 2] _ _
   rw [b45]
   exact k_little2 H43 w44 hn0 hn1
  rintro S51 H50 ⟨gS51, sS51, fS51⟩
  have ne52 : ApartS (S51) (S) := fS51.apartS s49.lt
  have fr53 : FreshS H0.next (S51) := fS51.mono g48.next
  have g54 := Grew.trans g48 gS51
  have s55 := s49.grew gS51
  have q56 := q42.app (kL : KdsL [KI, .one] [.int .i64 w44, S51])
  refine rC 0 0 [] [(19, nI 5), (17, n1 0), (20, n1 6)] q56 (.cons (put_ne rfl b45) (.cons (put_ne rfl b46) (.cons put_same .nil))) ?_
  refine all1 kr fun vs ls H57 E57 st hE => ?_
  have b58 := eo st hE 17 S
  have b59 := eo st hE 20 S51
  have B3 := es st hE [(17, S), (20, S51)]
  have g60 : Grew H50 H57 := (gk st)
  have g61 := Grew.trans g54 g60
  have s62 := s55.grew g60
  have s63 := sS51.grew g60
  refine res_append (d := (some 21)) (sz := 1) (bytes := 1) (x := .tmp 17) (y := .tmp 20) kr (S := S) (ms := ms) (ys := (chk2 w44)) (by show E57 17 = _; exact b58) s62 hg.recs.len (by show srcCells _ _ (E57 20) = _; rw [b59]; exact src_list (chk2_rng hn0 hn1).recs.len s63.toL) (recs_one (chk2_rng hn0 hn1).recs rfl) (by first | omega | (simp only [List.length_append, List.length_cons, List.length_nil, chk2_len]; omega)) ?_
  intro S64 H65 sS64 fS64 oS64
  have ne66 : ApartS (S64) (S51) := fS64.apartS s63.lt (by first | assumption | exact ApartS.symm am)
  have fr67 : FreshS H0.next (S64) := fS64.fresh fS g61.next
  have g68 : Grew H0 H65 := OnlyS.own g61 fS oS64
  have q70 := q56.app (kL : KdsL [.one] [S64])
  refine rC 0 0 [] [(17, n1 0), (20, n1 6), (21, n1 7)] q70 (sc (sp B3) (.cons put_same .nil)) ?_
  refine all1 kr fun vs ls H71 E71 st hE => ?_
  have gz : Grew H0 H71 := (Grew.trans g68 (gk st))
  have sz := (sS64.grew (st.inn.kept.grew (Nat.le_refl _)))
  have q9 : w44 = sumB ms ms.length % 65521 := by rw [hw44, show ms.length = i11 by omega]; exact Int.tmod_eq_emod_of_nonneg hs0
  rw [q9] at sz
  have hnx9 : H.next ≤ H71.next := by have k0 := gz.next; have k1 := g68.next; have k2 := oS64.next; have k3 := g61.next; have k4 := g60.next; have k5 := g54.next; have k6 := gS51.next; have k7 := g48.next; have k8 := g47.next; have k9 := g40.next; have k10 := g39.next; have k11 := g38.next; have k12 := g12.next; have k13 := hgi11.next; have k14 := g9.next; have k15 := g8.next; have k := (gk st).next; omega
  exact res_ex kr (end_same st.inn hE (.inr rfl) (a := S64) kr hnx9 ⟨gz, sz, fr67⟩)
theorem k_CloneB (H : AHeap) (ms : List (List AV)) (hr : Recs KB ms) (S : AV) (hS : SlL H 1 ms S) (mxms : ms.length ≤ 1048576) : ACalls Try.prog 82 [S] H fun r H' => Grew H H' ∧ SlF H' 1 ms r ∧ FreshS H.next r := by
 cases hS with
 | nil h0 =>
  refine res_start h_slices_Clone_byte_byte (by simp) ?_
  have q1 : KdsL [] [] := .nil
  refine rC 0 0 [] [(0, lN)] q1 (.cons (t := 0) rfl .nil) ?_
  refine all1 kr fun vs ls H2 E2 st hE => ?_
  have gz : Grew H H2 := (Grew.trans (Grew.refl _) (gk st))
  exact re st hE (.nilslice) gz.next ⟨gz, .nil h0, .nil⟩
 | @sl l n cap rest wr hg hn hc =>
  subst hn
  have hS : SlL H 1 ms (.slice l 0 ms.length cap 1) := .sl hg rfl hc
  refine res_start h_slices_Clone_byte_byte (by simp) ?_
  have q1 : KdsL [.one] [.slice l 0 ms.length cap 1] := .cons rfl .nil
  refine rD 0 0 [(.nilS (n1 0), .lit (.bool false))] [] [(0, n1 0)] q1 (.cons (⟨.slice l 0 ms.length cap 1, _, (dE q1), dLit rfl, fun E get => by simp [aval, Opd.ev]⟩) .nil) (.cons (t := 0) rfl .nil) ?_
  refine all1 kr fun vs ls H2 E2 st hE => ?_
  obtain ⟨p3, e4, r5, n6⟩ := sl_of st.inn hE 5 0 0 0 1 kr (ds := []) kr
  have op3 : H.next ≤ p3 := Nat.le_trans (Nat.le_refl _) (oM n6)
  have b7 := eo st hE 6 (.slice l 0 ms.length cap 1)
  have g8 : Grew H H2 := (gk st)
  have g9 : Grew H H2 := Grew.trans (Grew.refl _) g8
  have sx12 : SlF H2 1 [] (.slice p3 0 0 0 1) := .sl (by simpa using r5) rfl (Nat.le_refl _)
  refine res_append0 (d := (some 7)) (sz := 1) (bytes := 1) (x := .tmp 5) (y := .tmp 6) kr (S := .slice p3 0 0 0 1) (ys := ms) (by show E2 5 = _; exact e4) sx12 (.inr ⟨_, rfl⟩) (by show srcCells _ _ (E2 6) = _; rw [b7]; exact src_list hr.len (hS.grew g9)) (recs_one hr rfl) (by first | omega | (simp only [List.length_append, List.length_cons, List.length_nil, chk2_len]; omega)) ?_
  intro S10 H11 sS10 fS10 oS10
  have fr13 : FreshS H.next (S10) := fS10.fresh (FreshS.of_le op3) g9.next
  have g14 := Grew.trans g9 oS10
  have q16 := q1.app (kL : KdsL [.one] [S10])
  refine rC 0 0 [] [(6, n1 0), (7, n1 1)] q16 (.cons (put_ne rfl b7) (.cons put_same .nil)) ?_
  refine all1 kr fun vs ls H17 E17 st hE => ?_
  have gz : Grew H H17 := (Grew.trans g14 (gk st))
  exact re st hE (S10) gz.next ⟨gz, (sS10.grew (st.inn.kept.grew (Nat.le_refl _))), fr13⟩
open Classical in
theorem k_EqualB (H : AHeap) (xs ys : List (List AV)) (gx : RngB xs) (gy : RngB ys) (mx : xs.length < 2 ^ 40) (my : ys.length < 2 ^ 40) (X Y : AV) (hX : SlL H 1 xs X) (hY : SlL H 1 ys Y) : APure Try.prog 72 [X, Y] H (.bool (decide (xs = ys))) := by
 refine res_start h_slices_Equal_uint8_uint8 (by simp) ?_
 have q1 : KdsL [.one, .one, KI, KI] [X, Y, .int .i64 (xs.length : Int), .int .i64 (ys.length : Int)] := kL
 refine rD 0 0 [(.len (n1 0), nI 2), (.len (n1 1), nI 3)] [] [(0, n1 0), (1, n1 1)] q1 (.cons (⟨_, _, (dE q1), (dE q1), slLen hX⟩) (.cons (⟨_, _, (dE q1), (dE q1), slLen hY⟩) .nil)) (.cons (t := 0) rfl (.cons (t := 1) rfl .nil)) ?_
 refine all2 kr ?_ ?_
 ·
  intro vs ls H2 E2 st hE
  have f3 : ¬ ((xs.length : Int) = (ys.length : Int)) := df st 0
  refine rf st hE (.bool false) (Grew.trans (Grew.refl _) (gk st)) ?_
  exact congrArg AV.bool (decide_eq_false fun e => by subst e; omega).symm
 ·
  intro vs ls H4 E4 st hE
  have f5 : (xs.length : Int) = (ys.length : Int) := dt st 0
  have b6 := eo st hE 13 (.int .i64 0)
  have b7 := eo st hE 12 (.int .i64 (xs.length : Int))
  have b8 := eo st hE 0 X
  have b9 := eo st hE 1 Y
  have g10 : Grew H H4 := (gk st)
  have g11 : Grew H H4 := Grew.trans (Grew.refl _) g10
  refine res_scan kr [(12, .int .i64 (xs.length : Int)), (0, X), (1, Y)] 13 xs.length (fun i => ∀ j, j < i → xs.getD j [] = ys.getD j []) (.cons b7 (.cons b8 (.cons b9 .nil))) b6 (Grew.refl _) upTo0 ?_
  intro i12 hli12 hIi12 Ei12 Hi12 hsi12 hci12 hgi12
  have g13 := Grew.trans g11 hgi12
  have q14 := q1.app (kL : KdsL [KI] [.int .i64 (i12 : Int)])
  refine rC 0 0 [] [(12, nI 2), (0, n1 0), (1, n1 1), (13, nI 4)] q14 (.cons (hsi12.at 0 rfl) (.cons (hsi12.at 1 rfl) (.cons (hsi12.at 2 rfl) (.cons hci12 .nil)))) ?_
  refine all2 kr ?_ ?_
  ·
   intro vs ls H15 E15 st hE
   have f16 : (i12 : Int) < (xs.length : Int) := dt st 0
   have B1 := es st hE [(16, X), (17, .int .i64 (i12 : Int)), (1, Y), (5, .int .i64 (i12 : Int)), (13, .int .i64 (i12 : Int)), (12, .int .i64 (xs.length : Int)), (0, X)]
   have g24 : Grew Hi12 H15 := (gk st)
   have g25 := Grew.trans g13 g24
   have g26 := Grew.trans hgi12 g24
   have hlt27 : i12 < xs.length := by omega
   obtain ⟨lS27, cap27, rest27, wr27, eS27, gB27⟩ := hX.isSl hlt27
   have gS27 := g25.at gB27
   obtain ⟨v27_0, hm27, hb27⟩ := (rngParts gx hlt27)
   have he27 : xs.getD i12 [] = [.int .u8 (v27_0 : Int)] := by rw [← hm27, List.getD_eq_getElem?_getD, List.getElem?_eq_getElem hlt27]; rfl
   have q28 := q14.app (kL : KdsL [.int .u8] [.int .u8 (v27_0 : Int)])
   refine run_mc (φ := φ0) (pm := pmR 1 [(.ia 1 (n1 0) (nI 4), .ptr 0 0)] 0) 20 (ws := [⟨lS27, (i12 * 1), [.nd 5 (.int .u8)], false⟩]) (env := [(16, n1 0), (17, nI 4), (1, n1 1), (5, nI 4), (13, nI 4), (12, nI 2), (0, n1 0)]) q28 (.cons (win_elem gx.recs gS27 hlt27 rfl (by rw [hm27]; exact (dL q28))) .nil) (sepOk_ro rfl) (.cons (rule_iaS (k := i12) (dE q28) eS27 (dE q28) hlt27 rfl) .nil) (eC q28 B1) tb_ok ap_ok ?_
   refine all1 kr fun vs ls H29 E29 st hE => ?_
   have B2 := es st hE [(20, Y), (21, .int .i64 (i12 : Int)), (19, .int .u8 (v27_0 : Int)), (13, .int .i64 (i12 : Int)), (12, .int .i64 (xs.length : Int)), (0, X), (1, Y)]
   have g37 : Grew H15 H29 := (gk st)
   have g38 := Grew.trans g25 g37
   have g39 := Grew.trans g26 g37
   have hlt41 : i12 < ys.length := by omega
   obtain ⟨lS41, cap41, rest41, wr41, eS41, gB41⟩ := hY.isSl hlt41
   have gS41 := g38.at gB41
   obtain ⟨v41_0, hm41, hb41⟩ := (rngParts gy hlt41)
   have he41 : ys.getD i12 [] = [.int .u8 (v41_0 : Int)] := by rw [← hm41, List.getD_eq_getElem?_getD, List.getElem?_eq_getElem hlt41]; rfl
   have q42 := q28.app (kL : KdsL [.int .u8] [.int .u8 (v41_0 : Int)])
   refine run_mc (φ := φ0) (pm := pmR 1 [(.ia 1 (n1 1) (nI 4), .ptr 0 0)] 0) 20 (ws := [⟨lS41, (i12 * 1), [.nd 6 (.int .u8)], false⟩]) (env := [(20, n1 1), (21, nI 4), (19, .nd 5 (.int .u8)), (13, nI 4), (12, nI 2), (0, n1 0), (1, n1 1)]) q42 (.cons (win_elem gy.recs gS41 hlt41 rfl (by rw [hm41]; exact (dL q42))) .nil) (sepOk_ro rfl) (.cons (rule_iaS (k := i12) (dE q42) eS41 (dE q42) hlt41 rfl) .nil) (eC q42 B2) tb_ok ap_ok ?_
   refine all2 kr ?_ ?_
   ·
    intro vs ls H43 E43 st hE
    have f44 : ¬ ((v27_0 : Int) = (v41_0 : Int)) := df st 0
    refine res_ret kr (end_flat st.inn hE (.inr rfl) (a := .bool false) kr (Grew.trans g38 (gk st)) rfl ⟨?_, rfl⟩)
    exact congrArg AV.bool (decide_eq_false fun e => absurd (show (v27_0 : Int) = (v41_0 : Int) by subst e; have := he27.symm.trans he41; simpa using this) om).symm
   ·
    intro vs ls H45 E45 st hE
    have f46 : (v27_0 : Int) = (v41_0 : Int) := dt st 0
    have hlti12 : i12 < xs.length := by omega
    refine res_next (sl := [(12, .int .i64 (xs.length : Int)), (0, X), (1, Y)]) (ti := 13) (i := i12) (Inv := fun i => ∀ j, j < i → xs.getD j [] = ys.getD j []) kr st.inn hE hlti12 kr (w := (IntKind.wrap .i64 ((i12 : Int) + 1))) kr (wrap64 om) (Grew.trans g39 (gk st)) ?_
    exact upTo hIi12 (by rw [he27, he41, show (v27_0 : Int) = (v41_0 : Int) by omega])
  ·
   intro vs ls H47 E47 st hE
   have f48 : ¬ ((i12 : Int) < (xs.length : Int)) := df st 0
   obtain ⟨w51, hw51⟩ : ∃ z, z = (decide ((i12 : Int) < (xs.length : Int))) := ⟨_, rfl⟩
   have b52 : E47 14 = .bool w51 := by rw [hw51]; exact eo st hE 14 _
   have B3 := es st hE [(13, .int .i64 (i12 : Int)), (12, .int .i64 (xs.length : Int)), (0, X), (1, Y)]
   have g55 : Grew Hi12 H47 := (gk st)
   have g56 := Grew.trans g13 g55
   refine res_exit (id := 0) kr ?_
   have q58 := q14.app (kL : KdsL [.bool] [.bool w51])
   refine rC 0 0 [] [(13, nI 4), (12, nI 2), (0, n1 0), (1, n1 1), (14, nB 5)] q58 (sc B3 (.cons b52 .nil)) ?_
   refine all1 kr fun vs ls H59 E59 st hE => ?_
   refine rf st hE (.bool true) (Grew.trans g56 (gk st)) ?_
   exact congrArg AV.bool (decide_eq_true (List.ext_getElem om fun j h1 h2 => by have := hIi12 j om; simpa [List.getD_eq_getElem?_getD, h1, h2] using this)).symm
end Go.Proofs.Ytnleibiniajbnaa
