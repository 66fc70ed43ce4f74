/- Contracts: packets of readings, by the reference. -/
import Derived.Test.YtnleibiniajbnaaTReadC
import Derived.Test.YtnleibiniajbnaaSxE
set_option linter.unusedVariables false
set_option linter.unusedSimpArgs false
namespace Go.Proofs.Ytnleibiniajbnaa
open Go.Ab
set_option maxRecDepth 100000
set_option maxHeartbeats 1000000
attribute [local irreducible] Res
theorem src_row {H : AHeap} {l cap n : Nat} {cs : List AV} {wr : Bool} {ym : List (List AV)} (hg : H.get l = some (.row cs wr)) (hf : ym.flatten = cs) (hn : ym.length = n) (hc : cs.length = n) (h0 : n ≠ 0) : srcCells H.get 1 (.slice l 0 n cap 1) = some (ym.flatten, ym.length) := by
 simp only [srcCells]
 rw [if_pos trivial, if_neg h0, hg]
 simp only [Nat.zero_add, List.drop_zero, Nat.mul_one]
 rw [if_pos om, List.take_of_length_le om, hf, hn]
def enT (t : Int) : List (List AV) := [[.int .u8 (t % 256)], [.int .u8 (t / 256 % 256)], [.int .u8 (t / 65536 % 256)], [.int .u8 (t / 16777216 % 256)]]
def enC (c : Int) : List (List AV) := [[.int .u8 (c % 256)], [.int .u8 (c / 256 % 256)]]
def enR : List AV → List (List AV)
 | [.int _ t, .int _ a, .int _ b, .int _ c] => ((enT t ++ enC a) ++ enC b) ++ enC c
 | _ => []
def hdL (n : Int) : List (List AV) := [[.int .u8 82], [.int .u8 68], [.int .u8 (n % 256)], [.int .u8 (n / 256 % 256)]]
def pkL (rs : List (List AV)) : Nat → List (List AV)
 | 0 => hdL rs.length
 | i + 1 => pkL rs i ++ enR (rs.getD i [])
theorem one_rng {n : Int} (h0 : 0 ≤ n) (h1 : n < 256) : RngB [[.int .u8 n]] := fun m hm => by
 rw [List.mem_singleton] at hm; exact ⟨n, hm, h0, h1⟩
theorem enT_rng (t : Int) : RngB (enT t) := RngB.app (one_rng (n := t % 256) om om) (RngB.app (one_rng (n := t / 256 % 256) om om) (RngB.app (one_rng (n := t / 65536 % 256) om om) (one_rng (n := t / 16777216 % 256) om om)))
theorem enC_rng (c : Int) : RngB (enC c) := RngB.app (one_rng (n := c % 256) om om) (one_rng (n := c / 256 % 256) om om)
theorem enR_rng (m : List AV) : RngB (enR m) := by
 unfold enR
 split
 ·
  exact RngB.app (RngB.app (RngB.app (enT_rng _) (enC_rng _)) (enC_rng _)) (enC_rng _)
 ·
  intro m hm; cases hm
theorem hdL_rng (n : Int) : RngB (hdL n) := RngB.app (one_rng (n := 82) om om) (RngB.app (one_rng (n := 68) om om) (enC_rng n))
theorem pkL_rng (rs : List (List AV)) : ∀ i, RngB (pkL rs i)
 | 0 => hdL_rng _
 | i + 1 => RngB.app (pkL_rng rs i) (enR_rng _)
theorem enR_len (m : List AV) : (enR m).length ≤ 10 := by
 unfold enR
 split
 ·
  exact Nat.le_refl 10
 ·
  exact Nat.zero_le _
theorem pkL_len (rs : List (List AV)) : ∀ i, (pkL rs i).length ≤ 4 + 10 * i
 | 0 => Nat.le_refl 4
 | i + 1 => by
  have := pkL_len rs i
  have := enR_len (rs.getD i [])
  unfold pkL
  rw [List.length_append]
  omega
def pktL (rs : List (List AV)) : List (List AV) := pkL rs rs.length ++ chk2 (sumB (pkL rs rs.length) (pkL rs rs.length).length % 65521)
theorem b8_0 (n : Int) : IntKind.wrap .u8 n = n % 256 := wr_u8 n
theorem b8_8 (n : Int) : IntKind.wrap .u8 (Int.fdiv n (2 ^ (min (Int.toNat 8) (IntKind.bits .i64)))) = n / 256 % 256 := by
 rw [wr_u8]; show (n.fdiv 256) % 256 = _; rw [Int.fdiv_eq_ediv_of_nonneg _ (by decide)]
theorem b8_16 (n : Int) : IntKind.wrap .u8 (Int.fdiv n (2 ^ (min (Int.toNat 16) (IntKind.bits .i64)))) = n / 65536 % 256 := by
 rw [wr_u8]; show (n.fdiv 65536) % 256 = _; rw [Int.fdiv_eq_ediv_of_nonneg _ (by decide)]
theorem b8_24 (n : Int) : IntKind.wrap .u8 (Int.fdiv n (2 ^ (min (Int.toNat 24) (IntKind.bits .i64)))) = n / 16777216 % 256 := by
 rw [wr_u8]; show (n.fdiv 16777216) % 256 = _; rw [Int.fdiv_eq_ediv_of_nonneg _ (by decide)]
theorem wr_u16 (n : Int) : IntKind.wrap .u16 n = n % 65536 := by
 simp only [IntKind.wrap]
 rfl
theorem c8_0 (n : Int) : IntKind.wrap .u8 (IntKind.wrap .u16 n) = n % 256 := by rw [wr_u8, wr_u16]; omega
theorem c8_8 (n : Int) : IntKind.wrap .u8 (Int.fdiv (IntKind.wrap .u16 n) (2 ^ (min (Int.toNat 8) (IntKind.bits .u16)))) = n / 256 % 256 := by
 rw [wr_u8, wr_u16]; show ((n % 65536).fdiv 256) % 256 = _; rw [Int.fdiv_eq_ediv_of_nonneg _ (by decide)]; omega
theorem k_l04Packet (H : AHeap) (rs : List (List AV)) (hr : Recs KR rs) (S : AV) (hS : SlL H 4 rs S) (hmx : rs.length < 2 ^ 20) : ACalls Try.prog 79 [S] H fun r H' => Grew H H' ∧ SlF H' 1 (pktL rs) r ∧ FreshS H.next r := by
 refine res_start h_spec_l04Packet (by simp) ?_
 have q1 : KdsL [.one, KI] [S, .int .i64 (rs.length : Int)] := kL
 refine rD 0 0 [(.len (n1 0), nI 1)] [] [(0, n1 0)] q1 (.cons (⟨_, _, (dE q1), (dE q1), slLen hS⟩) .nil) (.cons (t := 0) rfl .nil) ?_
 refine all1 kr fun vs ls H2 E2 st hE => ?_
 obtain ⟨w3, hw3⟩ : ∃ z, z = (IntKind.wrap .u8 (rs.length : Int)) := ⟨_, rfl⟩
 obtain ⟨w4, hw4⟩ : ∃ z, z = (IntKind.wrap .u8 (Int.fdiv (rs.length : Int) (2 ^ (min (Int.toNat 8) (IntKind.bits .i64))))) := ⟨_, rfl⟩
 obtain ⟨p5, e6, r7, n8⟩ := sl_of st.inn hE 4 0 4 4 1 kr (ds := [.int .u8 82, .int .u8 68, .int .u8 (IntKind.wrap .u8 (rs.length : Int)), .int .u8 (IntKind.wrap .u8 (Int.fdiv (rs.length : Int) (2 ^ (min (Int.toNat 8) (IntKind.bits .i64)))))]) kr
 rw [← hw3] at r7
 rw [← hw4] at r7
 have op5 : H.next ≤ p5 := Nat.le_trans (Nat.le_refl _) (oM n8)
 have b9 := eo st hE 5 (.int .i64 0)
 have b10 := eo st hE 3 (.int .i64 (rs.length : Int))
 have b11 := eo st hE 0 S
 have g12 : Grew H H2 := (gk st)
 have g13 : Grew H H2 := Grew.trans (Grew.refl _) g12
 have hp0 : pkL rs 0 = [[.int .u8 82], [.int .u8 68], [.int .u8 w3], [.int .u8 w4]] := by
  show hdL _ = _; unfold hdL; rw [hw3, hw4, b8_0, b8_8]
 refine res_loop kr (fun z E H' => ∃ (i : Nat) (acc14_0 : AV), z + i = rs.length ∧ E 3 = .int .i64 (rs.length : Int) ∧ E 0 = S ∧ E 5 = .int .i64 (i : Int) ∧ E 4 = acc14_0 ∧ Grew H H' ∧ SlF H' 1 (pkL rs i) acc14_0 ∧ FreshS H.next acc14_0) (rs.length) ⟨0, .slice p5 0 4 4 1, by omega, b10, b11, b9, e6, g13, (by rw [hp0]; exact .sl (by simpa using r7) rfl (Nat.le_refl _)), (FreshS.of_le op5)⟩ ?_
 rintro z14 Ei14 Hi14 ⟨i14, acc14_0, hz14, c14_3, c14_0, ci14, ca14_0, gt14, s14_0, f14_0⟩
 have hpl9 := pkL_len rs i14
 have q15 := q1.app (kL : KdsL [.int .u8, .int .u8, KI, .one] [.int .u8 w3, .int .u8 w4, .int .i64 (i14 : Int), acc14_0])
 refine rC 0 5 [] [(3, nI 1), (0, n1 0), (5, nI 4), (4, n1 5)] q15 (.cons c14_3 (.cons c14_0 (.cons ci14 (.cons ca14_0 .nil)))) ?_
 refine all2 kr ?_ ?_
 ·
  intro vs ls H16 E16 st hE
  have f17 : (i14 : Int) < (rs.length : Int) := dt st 0
  have B1 := es st hE [(24, S), (25, .int .i64 (i14 : Int)), (4, acc14_0), (0, S), (5, .int .i64 (i14 : Int)), (3, .int .i64 (rs.length : Int))]
  have g24 : Grew Hi14 H16 := (gk st)
  have g25 := Grew.trans gt14 g24
  have s26 := s14_0.grew g24
  have hlt27 : i14 < rs.length := by omega
  obtain ⟨lS27, cap27, rest27, wr27, eS27, gB27⟩ := hS.isSl hlt27
  have gS27 := g25.at gB27
  have ne28 : ApartL (acc14_0) lS27 := f14_0.apartL (H.lt_of_get gB27)
  obtain ⟨v27_0, v27_1, v27_2, v27_3, hm27⟩ := partsReading (hr.get hlt27)
  have he27 : rs.getD i14 [] = [.int .i64 v27_0, .int .i16 v27_1, .int .i16 v27_2, .int .i16 v27_3] := by rw [← hm27, List.getD_eq_getElem?_getD, List.getElem?_eq_getElem hlt27]; rfl
  have q29 := q15.app (kL : KdsL [KI, .int .i16, .int .i16, .int .i16] [.int .i64 v27_0, .int .i16 v27_1, .int .i16 v27_2, .int .i16 v27_3])
  refine run_mc (φ := φ0) (pm := pmR 1 [(.ia 4 (n1 0) (nI 4), .ptr 0 0)] 5) 20 (ws := [⟨lS27, (i14 * 4), [nI 6, .nd 7 (.int .i16), .nd 8 (.int .i16), .nd 9 (.int .i16)], false⟩]) (env := [(24, n1 0), (25, nI 4), (4, n1 5), (0, n1 0), (5, nI 4), (3, nI 1)]) q29 (.cons (win_elem hr gS27 hlt27 rfl (by rw [hm27]; exact (dL q29))) .nil) (sepOk_ro rfl) (.cons (rule_iaS (k := i14) (dE q29) eS27 (dE q29) hlt27 rfl) .nil) (eC q29 B1) tb_ok ap_ok ?_
  refine all1 kr fun vs ls H30 E30 st hE => ?_
  obtain ⟨w31, hw31⟩ : ∃ z, z = (IntKind.wrap .u8 v27_0) := ⟨_, rfl⟩
  obtain ⟨w32, hw32⟩ : ∃ z, z = (IntKind.wrap .u8 (Int.fdiv v27_0 (2 ^ (min (Int.toNat 8) (IntKind.bits .i64))))) := ⟨_, rfl⟩
  obtain ⟨w33, hw33⟩ : ∃ z, z = (IntKind.wrap .u8 (Int.fdiv v27_0 (2 ^ (min (Int.toNat 16) (IntKind.bits .i64))))) := ⟨_, rfl⟩
  obtain ⟨w34, hw34⟩ : ∃ z, z = (IntKind.wrap .u8 (Int.fdiv v27_0 (2 ^ (min (Int.toNat 24) (IntKind.bits .i64))))) := ⟨_, rfl⟩
  obtain ⟨p35, e36, r37, n38⟩ := sl_of st.inn hE 41 1 4 4 1 kr (ds := [.int .u8 (IntKind.wrap .u8 v27_0), .int .u8 (IntKind.wrap .u8 (Int.fdiv v27_0 (2 ^ (min (Int.toNat 8) (IntKind.bits .i64))))), .int .u8 (IntKind.wrap .u8 (Int.fdiv v27_0 (2 ^ (min (Int.toNat 16) (IntKind.bits .i64))))), .int .u8 (IntKind.wrap .u8 (Int.fdiv v27_0 (2 ^ (min (Int.toNat 24) (IntKind.bits .i64)))))]) kr
  rw [← hw34] at r37
  rw [← hw32] at r37
  rw [← hw31] at r37
  rw [← hw33] at r37
  have op35 : H.next ≤ p35 := Nat.le_trans g25.next (oM n38)
  have ne39 := apn gS27 (oM n38)
  have ne40 : ApartL (acc14_0) p35 := s26.apart_new (oM n38)
  have b41 := eo st hE 29 acc14_0
  have B2 := es st hE [(29, acc14_0), (0, S), (5, .int .i64 (i14 : Int)), (4, acc14_0), (3, .int .i64 (rs.length : Int))]
  have g46 : Grew H16 H30 := (gk st)
  have g47 := Grew.trans g25 g46
  have s49 := s26.grew g46
  refine res_append (d := (some 42)) (sz := 1) (bytes := 1) (x := .tmp 29) (y := .tmp 41) kr (S := acc14_0) (ms := (pkL rs i14)) (ys := [[.int .u8 w31], [.int .u8 w32], [.int .u8 w33], [.int .u8 w34]]) (by show E30 29 = _; exact b41) s49 (pkL_rng rs i14).recs.len (by show srcCells _ _ (E30 41) = _; rw [e36]; exact src_row (ym := [[.int .u8 w31], [.int .u8 w32], [.int .u8 w33], [.int .u8 w34]]) r37 rfl rfl rfl (by decide)) (recs_one (ks := KB) (show Recs KB [[.int .u8 w31], [.int .u8 w32], [.int .u8 w33], [.int .u8 w34]] from (Recs.append (Recs.one (ks := KB) (.cons kA .nil)) (Recs.append (Recs.one (ks := KB) (.cons kA .nil)) (Recs.append (Recs.one (ks := KB) (.cons kA .nil)) (Recs.append (Recs.one (ks := KB) (.cons kA .nil)) (Recs.nil : Recs KB [])))))) rfl) (by first | omega | (simp only [List.length_append, List.length_cons, List.length_nil, chk2_len]; omega)) ?_
  intro S50 H51 sS50 fS50 oS50
  have ne52 := aL fS50 r37 am
  have fr53 : FreshS H.next (S50) := fS50.fresh f14_0 g47.next
  have g54 : Grew H H51 := OnlyS.own g47 f14_0 oS50
  have r55 := oS50.at r37 am
  have q56 := q29.app (kL : KdsL [.int .u8, .int .u8, .int .u8, .int .u8, .one] [.int .u8 w31, .int .u8 w32, .int .u8 w33, .int .u8 w34, S50])
  refine run_mc (φ := φ0) (pm := pmR 1 [] 5) 20 (ws := [wf p35 [.nd 10 (.int .u8), .nd 11 (.int .u8), .nd 12 (.int .u8), .nd 13 (.int .u8)]]) (env := [(29, n1 5), (0, n1 0), (5, nI 4), (4, n1 5), (3, nI 1), (41, .sl 0 0 4 4 1), (42, n1 14)]) q56 (.cons (wR r55 q56) .nil) (sepOk_ro rfl) .nil (eC q56 (sc (sp B2) (.cons (put_ne rfl e36) (.cons put_same .nil)))) tb_ok ap_ok ?_
  refine all1 kr fun vs ls H57 E57 st hE => ?_
  have B3 := es st hE [(47, S), (48, .int .i64 (i14 : Int)), (49, .int .i64 0), (4, S50), (7, .int .i64 0), (43, .int .i64 0), (44, .bool true), (0, S), (5, .int .i64 (i14 : Int)), (3, .int .i64 (rs.length : Int))]
  have g68 : Grew H51 H57 := (gk st)
  have g69 := Grew.trans g54 g68
  have s71 := sS50.grew g68
  have hlt72 : i14 < rs.length := by omega
  obtain ⟨lS72, cap72, rest72, wr72, eS72, gB72⟩ := hS.isSl hlt72
  have gS72 := g69.at gB72
  have ne73 : ApartL (S50) lS72 := fr53.apartL (H.lt_of_get gB72)
  obtain ⟨v72_0, v72_1, v72_2, v72_3, hm72⟩ := partsReading (hr.get hlt72)
  have he72 : rs.getD i14 [] = [.int .i64 v72_0, .int .i16 v72_1, .int .i16 v72_2, .int .i16 v72_3] := by rw [← hm72, List.getD_eq_getElem?_getD, List.getElem?_eq_getElem hlt72]; rfl
  have hq72 := he27.symm.trans he72
  simp only [List.cons.injEq, AV.flt.injEq, AV.int.injEq, Int.natCast_inj, true_and, and_true] at hq72
  obtain ⟨rfl, rfl, rfl, rfl⟩ := hq72
  have q74 := q56.app (kL : KdsL [KI, .int .i16, .int .i16, .int .i16] [.int .i64 v27_0, .int .i16 v27_1, .int .i16 v27_2, .int .i16 v27_3])
  refine run_mc (φ := φ0) (pm := pmR 1 [(.ia 4 (n1 0) (nI 4), .ptr 0 0)] 5) 20 (ws := [⟨lS72, (i14 * 4), [nI 15, .nd 16 (.int .i16), .nd 17 (.int .i16), .nd 18 (.int .i16)], false⟩]) (env := [(47, n1 0), (48, nI 4), (49, .lit (.int .i64 0)), (4, n1 14), (7, .lit (.int .i64 0)), (43, .lit (.int .i64 0)), (44, .lit (.bool true)), (0, n1 0), (5, nI 4), (3, nI 1)]) q74 (.cons (win_elem hr gS72 hlt72 rfl (by rw [hm72]; exact (dL q74))) .nil) (sepOk_ro rfl) (.cons (rule_iaS (k := i14) (dE q74) eS72 (dE q74) hlt72 rfl) .nil) (eC q74 B3) tb_ok ap_ok ?_
  refine all1 kr fun vs ls H75 E75 st hE => ?_
  obtain ⟨w76, hw76⟩ : ∃ z, z = (IntKind.wrap .u8 (IntKind.wrap .u16 v27_1)) := ⟨_, rfl⟩
  obtain ⟨w77, hw77⟩ : ∃ z, z = (IntKind.wrap .u8 (Int.fdiv (IntKind.wrap .u16 v27_1) (2 ^ (min (Int.toNat 8) (IntKind.bits .u16))))) := ⟨_, rfl⟩
  obtain ⟨p78, e79, r80, n81⟩ := sl_of st.inn hE 61 1 2 2 1 kr (ds := [.int .u8 (IntKind.wrap .u8 (IntKind.wrap .u16 v27_1)), .int .u8 (IntKind.wrap .u8 (Int.fdiv (IntKind.wrap .u16 v27_1) (2 ^ (min (Int.toNat 8) (IntKind.bits .u16)))))]) kr
  rw [← hw76] at r80
  rw [← hw77] at r80
  have op78 : H.next ≤ p78 := Nat.le_trans g69.next (oM n81)
  have ne82 := apn gS72 (oM n81)
  have ne83 : ApartL (S50) p78 := s71.apart_new (oM n81)
  have b84 := eo st hE 55 S50
  obtain ⟨w97, hw97⟩ : ∃ z, z = (IntKind.wrap .u16 v27_1) := ⟨_, rfl⟩
  have b98 : E75 54 = .int .u16 w97 := by rw [hw97]; exact eo st hE 54 _
  have b100 : E75 8 = .int .u16 w97 := by rw [hw97]; exact eo st hE 8 _
  have b101 : E75 56 = .int .u16 w97 := by rw [hw97]; exact eo st hE 56 _
  have b102 : E75 58 = .int .u16 w97 := by rw [hw97]; exact eo st hE 58 _
  obtain ⟨w103, hw103⟩ : ∃ z, z = (Int.fdiv (IntKind.wrap .u16 v27_1) (2 ^ (min (Int.toNat 8) (IntKind.bits .u16)))) := ⟨_, rfl⟩
  have b104 : E75 59 = .int .u16 w103 := by rw [hw103]; exact eo st hE 59 _
  have b105 : E75 57 = .int .u8 w76 := by rw [hw76]; exact eo st hE 57 _
  have b106 : E75 60 = .int .u8 w77 := by rw [hw77]; exact eo st hE 60 _
  have B4 := es st hE [(55, S50), (7, .int .i64 0), (43, .int .i64 0), (44, .bool true), (0, S), (5, .int .i64 (i14 : Int)), (47, S), (48, .int .i64 (i14 : Int)), (50, .ptr lS72 ((i14 * 4) + 0)), (51, .ptr lS72 ((i14 * 4) + 1)), (49, .int .i64 0), (52, .ptr lS72 ((i14 * 4) + 1)), (53, .int .i16 v27_1), (4, S50), (3, .int .i64 (rs.length : Int))]
  have g108 : Grew H57 H75 := (gk st)
  have g109 := Grew.trans g69 g108
  have r110 := g108.at gS72
  have s111 := s71.grew g108
  refine res_append (d := (some 62)) (sz := 1) (bytes := 1) (x := .tmp 55) (y := .tmp 61) kr (S := S50) (ms := ((pkL rs i14) ++ [[.int .u8 w31], [.int .u8 w32], [.int .u8 w33], [.int .u8 w34]])) (ys := [[.int .u8 w76], [.int .u8 w77]]) (by show E75 55 = _; exact b84) s111 (Recs.append (pkL_rng rs i14).recs (show Recs KB [[.int .u8 w31], [.int .u8 w32], [.int .u8 w33], [.int .u8 w34]] from (Recs.append (Recs.one (ks := KB) (.cons kA .nil)) (Recs.append (Recs.one (ks := KB) (.cons kA .nil)) (Recs.append (Recs.one (ks := KB) (.cons kA .nil)) (Recs.append (Recs.one (ks := KB) (.cons kA .nil)) (Recs.nil : Recs KB []))))))).len (by show srcCells _ _ (E75 61) = _; rw [e79]; exact src_row (ym := [[.int .u8 w76], [.int .u8 w77]]) r80 rfl rfl rfl (by decide)) (recs_one (ks := KB) (show Recs KB [[.int .u8 w76], [.int .u8 w77]] from (Recs.append (Recs.one (ks := KB) (.cons kA .nil)) (Recs.append (Recs.one (ks := KB) (.cons kA .nil)) (Recs.nil : Recs KB [])))) rfl) (by first | omega | (simp only [List.length_append, List.length_cons, List.length_nil, chk2_len]; omega)) ?_
  intro S112 H113 sS112 fS112 oS112
  have ne114 := aL fS112 r110 am
  have ne115 := aL fS112 r80 am
  have fr116 : FreshS H.next (S112) := fS112.fresh fr53 g109.next
  have g117 : Grew H H113 := OnlyS.own g109 fr53 oS112
  have r118 := oS112.at r110 am
  have r119 := oS112.at r80 am
  have q120 := q74.app (kL : KdsL [.int .u8, .int .u8, .int .u16, .int .u16, .one] [.int .u8 w76, .int .u8 w77, .int .u16 w97, .int .u16 w103, S112])
  refine run_mc (φ := φ0) (pm := pmR 2 [] 5) 20 (ws := [⟨lS72, (i14 * 4), [nI 15, .nd 16 (.int .i16), .nd 17 (.int .i16), .nd 18 (.int .i16)], false⟩, wf p78 [.nd 19 (.int .u8), .nd 20 (.int .u8)]]) (env := [(55, n1 14), (7, .lit (.int .i64 0)), (43, .lit (.int .i64 0)), (44, .lit (.bool true)), (0, n1 0), (5, nI 4), (47, n1 0), (48, nI 4), (50, .ptr 0 0), (51, .ptr 0 1), (49, .lit (.int .i64 0)), (52, .ptr 0 1), (53, .nd 16 (.int .i16)), (4, n1 14), (3, nI 1), (61, .sl 1 0 2 2 1), (54, .nd 21 (.int .u16)), (8, .nd 21 (.int .u16)), (56, .nd 21 (.int .u16)), (58, .nd 21 (.int .u16)), (59, .nd 22 (.int .u16)), (57, .nd 19 (.int .u8)), (60, .nd 20 (.int .u8)), (62, n1 23)]) q120 (.cons (win_elem hr r118 hlt72 rfl (by rw [hm72]; exact (dL q120))) wA) (sepOk_ro rfl) .nil (eC q120 (sc (sp B4) (.cons (put_ne rfl e79) (.cons (put_ne rfl b98) (.cons (put_ne rfl b100) (.cons (put_ne rfl b101) (.cons (put_ne rfl b102) (.cons (put_ne rfl b104) (.cons (put_ne rfl b105) (.cons (put_ne rfl b106) (.cons put_same .nil))))))))))) tb_ok ap_ok ?_
  refine all1 kr fun vs ls H121 E121 st hE => ?_
  have B5 := es st hE [(47, S), (48, .int .i64 (i14 : Int)), (50, .ptr lS72 ((i14 * 4) + 0)), (51, .ptr lS72 ((i14 * 4) + 1)), (49, .int .i64 1), (52, .ptr lS72 ((i14 * 4) + 1)), (53, .int .i16 v27_1), (54, .int .u16 w97), (4, S112), (8, .int .u16 w97), (56, .int .u16 w97), (58, .int .u16 w97), (59, .int .u16 w103), (57, .int .u8 w76), (60, .int .u8 w77), (55, S50), (61, .slice p78 0 2 2 1), (62, S112), (7, .int .i64 1), (45, .int .i64 0), (46, .int .i64 1), (43, .int .i64 1), (44, .bool true), (0, S), (5, .int .i64 (i14 : Int)), (3, .int .i64 (rs.length : Int))]
  have g148 : Grew H113 H121 := (gk st)
  have g149 := Grew.trans g117 g148
  have r150 := g148.at r118
  have r151 := g148.at r119
  have s152 := sS112.grew g148
  have hlt153 : i14 < rs.length := by omega
  obtain ⟨lS153, cap153, rest153, wr153, eS153, gB153⟩ := hS.isSl hlt153
  have gS153 := g149.at gB153
  have ne154 := apn gB153 op78
  have ne155 : ApartL (S112) lS153 := fr116.apartL (H.lt_of_get gB153)
  obtain ⟨v153_0, v153_1, v153_2, v153_3, hm153⟩ := partsReading (hr.get hlt153)
  have he153 : rs.getD i14 [] = [.int .i64 v153_0, .int .i16 v153_1, .int .i16 v153_2, .int .i16 v153_3] := by rw [← hm153, List.getD_eq_getElem?_getD, List.getElem?_eq_getElem hlt153]; rfl
  have hq153 := he72.symm.trans he153
  simp only [List.cons.injEq, AV.flt.injEq, AV.int.injEq, Int.natCast_inj, true_and, and_true] at hq153
  obtain ⟨rfl, rfl, rfl, rfl⟩ := hq153
  have q156 := q120.app (kL : KdsL [KI, .int .i16, .int .i16, .int .i16] [.int .i64 v27_0, .int .i16 v27_1, .int .i16 v27_2, .int .i16 v27_3])
  refine run_mc (φ := φ0) (pm := pmR 3 [(.ia 4 (n1 0) (nI 4), .ptr 2 0)] 5) 20 (ws := [⟨lS72, (i14 * 4), [nI 15, .nd 16 (.int .i16), .nd 17 (.int .i16), .nd 18 (.int .i16)], false⟩, wf p78 [.nd 19 (.int .u8), .nd 20 (.int .u8)], ⟨lS153, (i14 * 4), [nI 24, .nd 25 (.int .i16), .nd 26 (.int .i16), .nd 27 (.int .i16)], false⟩]) (env := [(47, n1 0), (48, nI 4), (50, .ptr 0 0), (51, .ptr 0 1), (49, .lit (.int .i64 1)), (52, .ptr 0 1), (53, .nd 16 (.int .i16)), (54, .nd 21 (.int .u16)), (4, n1 23), (8, .nd 21 (.int .u16)), (56, .nd 21 (.int .u16)), (58, .nd 21 (.int .u16)), (59, .nd 22 (.int .u16)), (57, .nd 19 (.int .u8)), (60, .nd 20 (.int .u8)), (55, n1 14), (61, .sl 1 0 2 2 1), (62, n1 23), (7, .lit (.int .i64 1)), (45, .lit (.int .i64 0)), (46, .lit (.int .i64 1)), (43, .lit (.int .i64 1)), (44, .lit (.bool true)), (0, n1 0), (5, nI 4), (3, nI 1)]) q156 (.cons (win_elem hr r150 hlt72 rfl (by rw [hm72]; exact (dL q156))) (.cons (wR r151 q156) (.cons (win_elem hr gS153 hlt153 rfl (by rw [hm153]; exact (dL q156))) .nil))) (sepOk_ro rfl) (.cons (rule_iaS (k := i14) (dE q156) eS153 (dE q156) hlt153 rfl) .nil) (eC q156 B5) tb_ok ap_ok ?_
  refine all1 kr fun vs ls H157 E157 st hE => ?_
  obtain ⟨w158, hw158⟩ : ∃ z, z = (IntKind.wrap .u8 (IntKind.wrap .u16 v27_2)) := ⟨_, rfl⟩
  obtain ⟨w159, hw159⟩ : ∃ z, z = (IntKind.wrap .u8 (Int.fdiv (IntKind.wrap .u16 v27_2) (2 ^ (min (Int.toNat 8) (IntKind.bits .u16))))) := ⟨_, rfl⟩
  obtain ⟨p160, e161, r162, n163⟩ := sl_of st.inn hE 61 3 2 2 1 kr (ds := [.int .u8 (IntKind.wrap .u8 (IntKind.wrap .u16 v27_2)), .int .u8 (IntKind.wrap .u8 (Int.fdiv (IntKind.wrap .u16 v27_2) (2 ^ (min (Int.toNat 8) (IntKind.bits .u16)))))]) kr
  rw [← hw159] at r162
  rw [← hw158] at r162
  have op160 : H.next ≤ p160 := Nat.le_trans g149.next (oM n163)
  have ne164 := apn r150 (oM n163)
  have ne165 := apn r151 (oM n163)
  have ne166 := apn gS153 (oM n163)
  have ne167 : ApartL (S112) p160 := s152.apart_new (oM n163)
  have b168 := eo st hE 55 S112
  obtain ⟨w184, hw184⟩ : ∃ z, z = (IntKind.wrap .u16 v27_2) := ⟨_, rfl⟩
  have b185 : E157 54 = .int .u16 w184 := by rw [hw184]; exact eo st hE 54 _
  have b187 : E157 8 = .int .u16 w184 := by rw [hw184]; exact eo st hE 8 _
  have b188 : E157 56 = .int .u16 w184 := by rw [hw184]; exact eo st hE 56 _
  have b189 : E157 58 = .int .u16 w184 := by rw [hw184]; exact eo st hE 58 _
  obtain ⟨w190, hw190⟩ : ∃ z, z = (Int.fdiv (IntKind.wrap .u16 v27_2) (2 ^ (min (Int.toNat 8) (IntKind.bits .u16)))) := ⟨_, rfl⟩
  have b191 : E157 59 = .int .u16 w190 := by rw [hw190]; exact eo st hE 59 _
  have b192 : E157 57 = .int .u8 w158 := by rw [hw158]; exact eo st hE 57 _
  have b193 : E157 60 = .int .u8 w159 := by rw [hw159]; exact eo st hE 60 _
  have B6 := es st hE [(55, S112), (7, .int .i64 1), (45, .int .i64 0), (46, .int .i64 1), (43, .int .i64 1), (44, .bool true), (0, S), (5, .int .i64 (i14 : Int)), (47, S), (48, .int .i64 (i14 : Int)), (50, .ptr lS153 ((i14 * 4) + 0)), (51, .ptr lS153 ((i14 * 4) + 1)), (49, .int .i64 1), (52, .ptr lS153 ((i14 * 4) + 2)), (53, .int .i16 v27_2), (4, S112), (3, .int .i64 (rs.length : Int))]
  have g195 : Grew H121 H157 := (gk st)
  have g196 := Grew.trans g149 g195
  have r199 := g195.at gS153
  have s200 := s152.grew g195
  refine res_append (d := (some 62)) (sz := 1) (bytes := 1) (x := .tmp 55) (y := .tmp 61) kr (S := S112) (ms := (((pkL rs i14) ++ [[.int .u8 w31], [.int .u8 w32], [.int .u8 w33], [.int .u8 w34]]) ++ [[.int .u8 w76], [.int .u8 w77]])) (ys := [[.int .u8 w158], [.int .u8 w159]]) (by show E157 55 = _; exact b168) s200 (Recs.append (Recs.append (pkL_rng rs i14).recs (show Recs KB [[.int .u8 w31], [.int .u8 w32], [.int .u8 w33], [.int .u8 w34]] from (Recs.append (Recs.one (ks := KB) (.cons kA .nil)) (Recs.append (Recs.one (ks := KB) (.cons kA .nil)) (Recs.append (Recs.one (ks := KB) (.cons kA .nil)) (Recs.append (Recs.one (ks := KB) (.cons kA .nil)) (Recs.nil : Recs KB []))))))) (show Recs KB [[.int .u8 w76], [.int .u8 w77]] from (Recs.append (Recs.one (ks := KB) (.cons kA .nil)) (Recs.append (Recs.one (ks := KB) (.cons kA .nil)) (Recs.nil : Recs KB []))))).len (by show srcCells _ _ (E157 61) = _; rw [e161]; exact src_row (ym := [[.int .u8 w158], [.int .u8 w159]]) r162 rfl rfl rfl (by decide)) (recs_one (ks := KB) (show Recs KB [[.int .u8 w158], [.int .u8 w159]] from (Recs.append (Recs.one (ks := KB) (.cons kA .nil)) (Recs.append (Recs.one (ks := KB) (.cons kA .nil)) (Recs.nil : Recs KB [])))) rfl) (by first | omega | (simp only [List.length_append, List.length_cons, List.length_nil, chk2_len]; omega)) ?_
  intro S201 H202 sS201 fS201 oS201
  have ne203 := aL fS201 r199 am
  have ne204 := aL fS201 r162 am
  have fr205 : FreshS H.next (S201) := fS201.fresh fr116 g196.next
  have g206 : Grew H H202 := OnlyS.own g196 fr116 oS201
  have r207 := oS201.at r199 am
  have r208 := oS201.at r162 am
  have q209 := q156.app (kL : KdsL [.int .u8, .int .u8, .int .u16, .int .u16, .one] [.int .u8 w158, .int .u8 w159, .int .u16 w184, .int .u16 w190, S201])
  refine run_mc (φ := φ0) (pm := pmR 2 [] 5) 20 (ws := [⟨lS153, (i14 * 4), [nI 24, .nd 25 (.int .i16), .nd 26 (.int .i16), .nd 27 (.int .i16)], false⟩, wf p160 [.nd 28 (.int .u8), .nd 29 (.int .u8)]]) (env := [(55, n1 23), (7, .lit (.int .i64 1)), (45, .lit (.int .i64 0)), (46, .lit (.int .i64 1)), (43, .lit (.int .i64 1)), (44, .lit (.bool true)), (0, n1 0), (5, nI 4), (47, n1 0), (48, nI 4), (50, .ptr 0 0), (51, .ptr 0 1), (49, .lit (.int .i64 1)), (52, .ptr 0 2), (53, .nd 26 (.int .i16)), (4, n1 23), (3, nI 1), (61, .sl 1 0 2 2 1), (54, .nd 30 (.int .u16)), (8, .nd 30 (.int .u16)), (56, .nd 30 (.int .u16)), (58, .nd 30 (.int .u16)), (59, .nd 31 (.int .u16)), (57, .nd 28 (.int .u8)), (60, .nd 29 (.int .u8)), (62, n1 32)]) q209 (.cons (win_elem hr r207 hlt153 rfl (by rw [hm153]; exact (dL q209))) wA) (sepOk_ro rfl) .nil (eC q209 (sc (sp B6) (.cons (put_ne rfl e161) (.cons (put_ne rfl b185) (.cons (put_ne rfl b187) (.cons (put_ne rfl b188) (.cons (put_ne rfl b189) (.cons (put_ne rfl b191) (.cons (put_ne rfl b192) (.cons (put_ne rfl b193) (.cons put_same .nil))))))))))) tb_ok ap_ok ?_
  refine all1 kr fun vs ls H210 E210 st hE => ?_
  have B7 := es st hE [(47, S), (48, .int .i64 (i14 : Int)), (50, .ptr lS153 ((i14 * 4) + 0)), (51, .ptr lS153 ((i14 * 4) + 1)), (49, .int .i64 2), (52, .ptr lS153 ((i14 * 4) + 2)), (53, .int .i16 v27_2), (54, .int .u16 w184), (4, S201), (8, .int .u16 w184), (56, .int .u16 w184), (58, .int .u16 w184), (59, .int .u16 w190), (57, .int .u8 w158), (60, .int .u8 w159), (55, S112), (61, .slice p160 0 2 2 1), (62, S201), (7, .int .i64 2), (45, .int .i64 1), (46, .int .i64 2), (43, .int .i64 2), (44, .bool true), (0, S), (5, .int .i64 (i14 : Int)), (3, .int .i64 (rs.length : Int))]
  have g237 : Grew H202 H210 := (gk st)
  have g238 := Grew.trans g206 g237
  have r239 := g237.at r207
  have r240 := g237.at r208
  have s241 := sS201.grew g237
  have hlt242 : i14 < rs.length := by omega
  obtain ⟨lS242, cap242, rest242, wr242, eS242, gB242⟩ := hS.isSl hlt242
  have gS242 := g238.at gB242
  have ne243 := apn gB242 op160
  have ne244 : ApartL (S201) lS242 := fr205.apartL (H.lt_of_get gB242)
  obtain ⟨v242_0, v242_1, v242_2, v242_3, hm242⟩ := partsReading (hr.get hlt242)
  have he242 : rs.getD i14 [] = [.int .i64 v242_0, .int .i16 v242_1, .int .i16 v242_2, .int .i16 v242_3] := by rw [← hm242, List.getD_eq_getElem?_getD, List.getElem?_eq_getElem hlt242]; rfl
  have hq242 := he153.symm.trans he242
  simp only [List.cons.injEq, AV.flt.injEq, AV.int.injEq, Int.natCast_inj, true_and, and_true] at hq242
  obtain ⟨rfl, rfl, rfl, rfl⟩ := hq242
  have q245 := q209.app (kL : KdsL [KI, .int .i16, .int .i16, .int .i16] [.int .i64 v27_0, .int .i16 v27_1, .int .i16 v27_2, .int .i16 v27_3])
  refine run_mc (φ := φ0) (pm := pmR 3 [(.ia 4 (n1 0) (nI 4), .ptr 2 0)] 5) 20 (ws := [⟨lS153, (i14 * 4), [nI 24, .nd 25 (.int .i16), .nd 26 (.int .i16), .nd 27 (.int .i16)], false⟩, wf p160 [.nd 28 (.int .u8), .nd 29 (.int .u8)], ⟨lS242, (i14 * 4), [nI 33, .nd 34 (.int .i16), .nd 35 (.int .i16), .nd 36 (.int .i16)], false⟩]) (env := [(47, n1 0), (48, nI 4), (50, .ptr 0 0), (51, .ptr 0 1), (49, .lit (.int .i64 2)), (52, .ptr 0 2), (53, .nd 26 (.int .i16)), (54, .nd 30 (.int .u16)), (4, n1 32), (8, .nd 30 (.int .u16)), (56, .nd 30 (.int .u16)), (58, .nd 30 (.int .u16)), (59, .nd 31 (.int .u16)), (57, .nd 28 (.int .u8)), (60, .nd 29 (.int .u8)), (55, n1 23), (61, .sl 1 0 2 2 1), (62, n1 32), (7, .lit (.int .i64 2)), (45, .lit (.int .i64 1)), (46, .lit (.int .i64 2)), (43, .lit (.int .i64 2)), (44, .lit (.bool true)), (0, n1 0), (5, nI 4), (3, nI 1)]) q245 (.cons (win_elem hr r239 hlt153 rfl (by rw [hm153]; exact (dL q245))) (.cons (wR r240 q245) (.cons (win_elem hr gS242 hlt242 rfl (by rw [hm242]; exact (dL q245))) .nil))) (sepOk_ro rfl) (.cons (rule_iaS (k := i14) (dE q245) eS242 (dE q245) hlt242 rfl) .nil) (eC q245 B7) tb_ok ap_ok ?_
  refine all1 kr fun vs ls H246 E246 st hE => ?_
  obtain ⟨w247, hw247⟩ : ∃ z, z = (IntKind.wrap .u8 (IntKind.wrap .u16 v27_3)) := ⟨_, rfl⟩
  obtain ⟨w248, hw248⟩ : ∃ z, z = (IntKind.wrap .u8 (Int.fdiv (IntKind.wrap .u16 v27_3) (2 ^ (min (Int.toNat 8) (IntKind.bits .u16))))) := ⟨_, rfl⟩
  obtain ⟨p249, e250, r251, n252⟩ := sl_of st.inn hE 61 3 2 2 1 kr (ds := [.int .u8 (IntKind.wrap .u8 (IntKind.wrap .u16 v27_3)), .int .u8 (IntKind.wrap .u8 (Int.fdiv (IntKind.wrap .u16 v27_3) (2 ^ (min (Int.toNat 8) (IntKind.bits .u16)))))]) kr
  rw [← hw247] at r251
  rw [← hw248] at r251
  have op249 : H.next ≤ p249 := Nat.le_trans g238.next (oM n252)
  have ne253 := apn r239 (oM n252)
  have ne254 := apn r240 (oM n252)
  have ne255 := apn gS242 (oM n252)
  have ne256 : ApartL (S201) p249 := s241.apart_new (oM n252)
  have b257 := eo st hE 55 S201
  obtain ⟨w273, hw273⟩ : ∃ z, z = (IntKind.wrap .u16 v27_3) := ⟨_, rfl⟩
  have b274 : E246 54 = .int .u16 w273 := by rw [hw273]; exact eo st hE 54 _
  have b276 : E246 8 = .int .u16 w273 := by rw [hw273]; exact eo st hE 8 _
  have b277 : E246 56 = .int .u16 w273 := by rw [hw273]; exact eo st hE 56 _
  have b278 : E246 58 = .int .u16 w273 := by rw [hw273]; exact eo st hE 58 _
  obtain ⟨w279, hw279⟩ : ∃ z, z = (Int.fdiv (IntKind.wrap .u16 v27_3) (2 ^ (min (Int.toNat 8) (IntKind.bits .u16)))) := ⟨_, rfl⟩
  have b280 : E246 59 = .int .u16 w279 := by rw [hw279]; exact eo st hE 59 _
  have b281 : E246 57 = .int .u8 w247 := by rw [hw247]; exact eo st hE 57 _
  have b282 : E246 60 = .int .u8 w248 := by rw [hw248]; exact eo st hE 60 _
  have B8 := es st hE [(55, S201), (7, .int .i64 2), (45, .int .i64 1), (46, .int .i64 2), (43, .int .i64 2), (44, .bool true), (0, S), (5, .int .i64 (i14 : Int)), (47, S), (48, .int .i64 (i14 : Int)), (50, .ptr lS242 ((i14 * 4) + 0)), (51, .ptr lS242 ((i14 * 4) + 1)), (49, .int .i64 2), (52, .ptr lS242 ((i14 * 4) + 3)), (53, .int .i16 v27_3), (4, S201), (3, .int .i64 (rs.length : Int))]
  have g284 : Grew H210 H246 := (gk st)
  have g285 := Grew.trans g238 g284
  have r288 := g284.at gS242
  have s289 := s241.grew g284
  refine res_append (d := (some 62)) (sz := 1) (bytes := 1) (x := .tmp 55) (y := .tmp 61) kr (S := S201) (ms := ((((pkL rs i14) ++ [[.int .u8 w31], [.int .u8 w32], [.int .u8 w33], [.int .u8 w34]]) ++ [[.int .u8 w76], [.int .u8 w77]]) ++ [[.int .u8 w158], [.int .u8 w159]])) (ys := [[.int .u8 w247], [.int .u8 w248]]) (by show E246 55 = _; exact b257) s289 (Recs.append (Recs.append (Recs.append (pkL_rng rs i14).recs (show Recs KB [[.int .u8 w31], [.int .u8 w32], [.int .u8 w33], [.int .u8 w34]] from (Recs.append (Recs.one (ks := KB) (.cons kA .nil)) (Recs.append (Recs.one (ks := KB) (.cons kA .nil)) (Recs.append (Recs.one (ks := KB) (.cons kA .nil)) (Recs.append (Recs.one (ks := KB) (.cons kA .nil)) (Recs.nil : Recs KB []))))))) (show Recs KB [[.int .u8 w76], [.int .u8 w77]] from (Recs.append (Recs.one (ks := KB) (.cons kA .nil)) (Recs.append (Recs.one (ks := KB) (.cons kA .nil)) (Recs.nil : Recs KB []))))) (show Recs KB [[.int .u8 w158], [.int .u8 w159]] from (Recs.append (Recs.one (ks := KB) (.cons kA .nil)) (Recs.append (Recs.one (ks := KB) (.cons kA .nil)) (Recs.nil : Recs KB []))))).len (by show srcCells _ _ (E246 61) = _; rw [e250]; exact src_row (ym := [[.int .u8 w247], [.int .u8 w248]]) r251 rfl rfl rfl (by decide)) (recs_one (ks := KB) (show Recs KB [[.int .u8 w247], [.int .u8 w248]] from (Recs.append (Recs.one (ks := KB) (.cons kA .nil)) (Recs.append (Recs.one (ks := KB) (.cons kA .nil)) (Recs.nil : Recs KB [])))) rfl) (by first | omega | (simp only [List.length_append, List.length_cons, List.length_nil, chk2_len]; omega)) ?_
  intro S290 H291 sS290 fS290 oS290
  have ne292 := aL fS290 r288 am
  have ne293 := aL fS290 r251 am
  have fr294 : FreshS H.next (S290) := fS290.fresh fr205 g285.next
  have g295 : Grew H H291 := OnlyS.own g285 fr205 oS290
  have r296 := oS290.at r288 am
  have r297 := oS290.at r251 am
  have q298 := q245.app (kL : KdsL [.int .u8, .int .u8, .int .u16, .int .u16, .one] [.int .u8 w247, .int .u8 w248, .int .u16 w273, .int .u16 w279, S290])
  refine run_mc (φ := φ0) (pm := pmR 2 [] 5) 20 (ws := [⟨lS242, (i14 * 4), [nI 33, .nd 34 (.int .i16), .nd 35 (.int .i16), .nd 36 (.int .i16)], false⟩, wf p249 [.nd 37 (.int .u8), .nd 38 (.int .u8)]]) (env := [(55, n1 32), (7, .lit (.int .i64 2)), (45, .lit (.int .i64 1)), (46, .lit (.int .i64 2)), (43, .lit (.int .i64 2)), (44, .lit (.bool true)), (0, n1 0), (5, nI 4), (47, n1 0), (48, nI 4), (50, .ptr 0 0), (51, .ptr 0 1), (49, .lit (.int .i64 2)), (52, .ptr 0 3), (53, .nd 36 (.int .i16)), (4, n1 32), (3, nI 1), (61, .sl 1 0 2 2 1), (54, .nd 39 (.int .u16)), (8, .nd 39 (.int .u16)), (56, .nd 39 (.int .u16)), (58, .nd 39 (.int .u16)), (59, .nd 40 (.int .u16)), (57, .nd 37 (.int .u8)), (60, .nd 38 (.int .u8)), (62, n1 41)]) q298 (.cons (win_elem hr r296 hlt242 rfl (by rw [hm242]; exact (dL q298))) wA) (sepOk_ro rfl) .nil (eC q298 (sc (sp B8) (.cons (put_ne rfl e250) (.cons (put_ne rfl b274) (.cons (put_ne rfl b276) (.cons (put_ne rfl b277) (.cons (put_ne rfl b278) (.cons (put_ne rfl b280) (.cons (put_ne rfl b281) (.cons (put_ne rfl b282) (.cons put_same .nil))))))))))) tb_ok ap_ok ?_
  refine all1 kr fun vs ls H299 E299 st hE => ?_
  obtain ⟨w300, hw300⟩ : ∃ z, z = (IntKind.wrap .i64 ((i14 : Int) + 1)) := ⟨_, rfl⟩
  have b301 : E299 5 = .int .i64 w300 := by rw [hw300]; exact eo st hE 5 _
  have b302 := eo st hE 3 (.int .i64 (rs.length : Int))
  have b303 := eo st hE 0 S
  have b304 := eo st hE 4 S290
  have g305 : Grew H291 H299 := (gk st)
  have g306 := Grew.trans g295 g305
  have s309 := sS290.grew g305
  have nw300 : w300 = ((i14 : Int) + 1) := by
   rw [hw300]
   rw [show (IntKind.wrap .i64 ((i14 : Int) + 1)) = (i14 : Int) + 1 from wrap_i64 om om]
  have hz9 : z14 - 1 < z14 := by omega
  have hy9 : z14 - 1 + (i14 + 1) = rs.length := by omega
  have hi9 : E299 5 = .int .i64 ((i14 + 1 : Nat) : Int) := by rw [b301, hw300, wrap64 om]
  have hs9 : pkL rs (i14 + 1) = (((((pkL rs i14) ++ [[.int .u8 w31], [.int .u8 w32], [.int .u8 w33], [.int .u8 w34]]) ++ [[.int .u8 w76], [.int .u8 w77]]) ++ [[.int .u8 w158], [.int .u8 w159]]) ++ [[.int .u8 w247], [.int .u8 w248]]) := by
   show pkL rs i14 ++ enR _ = _
   rw [he242]; show pkL rs i14 ++ (((enT _ ++ enC _) ++ enC _) ++ enC _) = _; unfold enT enC
   rw [hw31, b8_0, hw32, b8_8, hw33, b8_16, hw34, b8_24, hw76, c8_0, hw77, c8_8, hw158, c8_0, hw159, c8_8, hw247, c8_0, hw248, c8_8, ← List.append_assoc, ← List.append_assoc, ← List.append_assoc]
  exact res_norm kr ⟨z14 - 1, hz9, i14 + 1, S290, hy9, b302, b303, hi9, b304, g306, (by rw [hs9]; exact s309), fr294⟩
 ·
  intro vs ls H310 E310 st hE
  have f311 : ¬ ((i14 : Int) < (rs.length : Int)) := df st 0
  obtain ⟨w316, hw316⟩ : ∃ z, z = (decide ((i14 : Int) < (rs.length : Int))) := ⟨_, rfl⟩
  have b317 : E310 21 = .bool w316 := by rw [hw316]; exact eo st hE 21 _
  have B9 := es st hE [(5, .int .i64 (i14 : Int)), (3, .int .i64 (rs.length : Int)), (19, .int .i64 (i14 : Int)), (20, .int .i64 (rs.length : Int)), (0, S), (4, acc14_0)]
  have g320 : Grew Hi14 H310 := (gk st)
  have g321 := Grew.trans gt14 g320
  have s322 := s14_0.grew g320
  refine res_exit (id := 0) kr ?_
  have hi9 : rs.length = i14 := by omega
  have q323 := q15.app (kL : KdsL [.bool] [.bool w316])
  refine rC 0 0 [] [(5, nI 4), (3, nI 1), (19, nI 4), (20, nI 1), (0, n1 0), (4, n1 5), (21, nB 6)] q323 (sc B9 (.cons b317 .nil)) ?_
  refine all1 kr fun vs ls H324 E324 st hE => ?_
  have b325 := eo st hE 10 (.int .i64 0)
  have b326 := eo st hE 4 acc14_0
  have b327 := eo st hE 9 (.int .i64 0)
  have g328 : Grew H310 H324 := (gk st)
  have g329 := Grew.trans g321 g328
  have s330 := s322.grew g328
  refine res_scanv kr (fun i => [(4, acc14_0), (9, .int .i64 (sumB (pkL rs i14) i))]) 10 0 (pkL rs i14).length (fun i => True) (Nat.zero_le _) (.cons b326 (.cons b327 .nil)) b325 (Grew.refl _) trivial ?_
  intro i331 hoi331 hli331 hIi331 Ei331 Hi331 hsi331 hci331 hgi331
  have g332 := Grew.trans g329 hgi331
  have s333 := s330.grew hgi331
  have q334 := q323.app (kL : KdsL [KI, KI, KI] [.int .i64 (sumB (pkL rs i14) i331), .int .i64 (i331 : Int), .int .i64 ((pkL rs i14).length : Int)])
  refine rD 0 5 [(.len (n1 5), nI 9)] [] [(4, n1 5), (9, nI 7), (10, nI 8)] q334 (.cons (⟨_, _, (dE q334), (dE q334), slLen (s333.toL)⟩) .nil) (.cons (hsi331.at 0 rfl) (.cons (hsi331.at 1 rfl) (.cons hci331 .nil))) ?_
  refine all2 kr ?_ ?_
  ·
   intro vs ls H335 E335 st hE
   have f336 : (i331 : Int) < ((pkL rs i14).length : Int) := dt st 0
   have B10 := es st hE [(70, acc14_0), (71, .int .i64 (i331 : Int)), (69, .int .i64 (sumB (pkL rs i14) i331)), (10, .int .i64 (i331 : Int)), (4, acc14_0), (9, .int .i64 (sumB (pkL rs i14) i331))]
   have g344 : Grew Hi331 H335 := (gk st)
   have g346 := Grew.trans hgi331 g344
   have s347 := s333.grew g344
   have hlt348 : i331 < (pkL rs i14).length := by omega
   obtain ⟨lS348, cap348, rest348, wr348, eS348, gS348⟩ := (s347.toL).isSl hlt348
   obtain ⟨v348_0, hm348, hb348⟩ := (rngParts (pkL_rng rs i14) hlt348)
   have he348 : (pkL rs i14).getD i331 [] = [.int .u8 (v348_0 : Int)] := by rw [← hm348, List.getD_eq_getElem?_getD, List.getElem?_eq_getElem hlt348]; rfl
   have q349 := q334.app (kL : KdsL [.int .u8] [.int .u8 (v348_0 : Int)])
   refine run_mc (φ := φ0) (pm := pmR 1 [(.ia 1 (n1 5) (nI 8), .ptr 0 0)] 5) 20 (ws := [⟨lS348, (i331 * 1), [.nd 10 (.int .u8)], false⟩]) (env := [(70, n1 5), (71, nI 8), (69, nI 7), (10, nI 8), (4, n1 5), (9, nI 7)]) q349 (.cons (win_elem (pkL_rng rs i14).recs gS348 hlt348 rfl (by rw [hm348]; exact (dL q349))) .nil) (sepOk_ro rfl) (.cons (rule_iaS (k := i331) (dE q349) eS348 (dE q349) hlt348 rfl) .nil) (eC q349 B10) tb_ok ap_ok ?_
   refine all1 kr fun vs ls H350 E350 st hE => ?_
   have hlti331 : i331 < (pkL rs i14).length := by omega
   refine res_nextv (sl := fun i => [(4, acc14_0), (9, .int .i64 (sumB (pkL rs i14) i))]) (sl' := [(4, acc14_0), (9, .int .i64 (IntKind.wrap .i64 ((sumB (pkL rs i14) i331) + (IntKind.wrap .i64 (v348_0 : Int)))))]) (ti := 10) (i := i331) (Inv := fun i => True) kr st.inn hE hlti331 kr ?_ (w := (IntKind.wrap .i64 ((i331 : Int) + 1))) kr (wrap64 om) (Grew.trans g346 (gk st)) ?_
   have hb9 := sumB_rng (pkL_rng rs i14) i331 om
   have hn9 : (IntKind.wrap .i64 ((sumB (pkL rs i14) i331) + (IntKind.wrap .i64 (v348_0 : Int)))) = sumB (pkL rs i14) (i331 + 1) := by
    rw [sumB_step he348, show IntKind.wrap .i64 (v348_0 : Int) = (v348_0 : Int) from wrap_i64 om om]; exact wrap_i64 om om
   ·
    show _ = [_, _]; rw [hn9]
   trivial
  ·
   intro vs ls H351 E351 st hE
   have f352 : ¬ ((i331 : Int) < ((pkL rs i14).length : Int)) := df st 0
   obtain ⟨w358, hw358⟩ : ∃ z, z = (decide ((i331 : Int) < ((pkL rs i14).length : Int))) := ⟨_, rfl⟩
   have b359 : E351 66 = .bool w358 := by rw [hw358]; exact eo st hE 66 _
   have B11 := es st hE [(10, .int .i64 (i331 : Int)), (4, acc14_0), (64, acc14_0), (63, .int .i64 (i331 : Int)), (65, .int .i64 ((pkL rs i14).length : Int)), (9, .int .i64 (sumB (pkL rs i14) i331))]
   have g361 : Grew Hi331 H351 := (gk st)
   have g362 := Grew.trans g332 g361
   have s364 := s333.grew g361
   refine res_exit (id := 4) kr ?_
   have hs0 : 0 ≤ sumB (pkL rs i14) i331 := (sumB_rng (pkL_rng rs _) _ om).1
   have hi8 : i331 = (pkL rs i14).length := by omega
   have q365 := q334.app (kL : KdsL [.bool] [.bool w358])
   refine rC 0 0 [] [(10, nI 8), (4, n1 5), (64, n1 5), (63, nI 8), (65, nI 9), (9, nI 7), (66, nB 10)] q365 (sc B11 (.cons b359 .nil)) ?_
   refine all1 kr fun vs ls H366 E366 st hE => ?_
   obtain ⟨w367, hw367⟩ : ∃ z, z = (IntKind.wrap .u8 (Int.tmod (sumB (pkL rs i14) i331) 65521)) := ⟨_, rfl⟩
   obtain ⟨w368, hw368⟩ : ∃ z, z = (IntKind.wrap .u8 (Int.fdiv (Int.tmod (sumB (pkL rs i14) i331) 65521) (2 ^ (min (Int.toNat 8) (IntKind.bits .i64))))) := ⟨_, rfl⟩
   obtain ⟨p369, e370, r371, n372⟩ := sl_of st.inn hE 84 0 2 2 1 kr (ds := [.int .u8 (IntKind.wrap .u8 (Int.tmod (sumB (pkL rs i14) i331) 65521)), .int .u8 (IntKind.wrap .u8 (Int.fdiv (Int.tmod (sumB (pkL rs i14) i331) 65521) (2 ^ (min (Int.toNat 8) (IntKind.bits .i64)))))]) kr
   rw [← hw368] at r371
   rw [← hw367] at r371
   have op369 : H.next ≤ p369 := Nat.le_trans g362.next (oM n372)
   have ne373 : ApartL (acc14_0) p369 := s364.apart_new (oM n372)
   have b374 := eo st hE 78 acc14_0
   have g375 : Grew H351 H366 := (gk st)
   have g376 := Grew.trans g362 g375
   have s377 := s364.grew g375
   refine res_append (d := (some 85)) (sz := 1) (bytes := 1) (x := .tmp 78) (y := .tmp 84) kr (S := acc14_0) (ms := (pkL rs i14)) (ys := [[.int .u8 w367], [.int .u8 w368]]) (by show E366 78 = _; exact b374) s377 (pkL_rng rs i14).recs.len (by show srcCells _ _ (E366 84) = _; rw [e370]; exact src_row (ym := [[.int .u8 w367], [.int .u8 w368]]) r371 rfl rfl rfl (by decide)) (recs_one (ks := KB) (show Recs KB [[.int .u8 w367], [.int .u8 w368]] from (Recs.append (Recs.one (ks := KB) (.cons kA .nil)) (Recs.append (Recs.one (ks := KB) (.cons kA .nil)) (Recs.nil : Recs KB [])))) rfl) (by first | omega | (simp only [List.length_append, List.length_cons, List.length_nil, chk2_len]; omega)) ?_
   intro S378 H379 sS378 fS378 oS378
   have ne380 := aL fS378 r371 am
   have fr381 : FreshS H.next (S378) := fS378.fresh f14_0 g376.next
   have g382 : Grew H H379 := OnlyS.own g376 f14_0 oS378
   have r383 := oS378.at r371 am
   have q384 := q365.app (kL : KdsL [.int .u8, .int .u8, .one] [.int .u8 w367, .int .u8 w368, S378])
   refine rC 1 0 [wf p369 [.nd 11 (.int .u8), .nd 12 (.int .u8)]] [(78, n1 5), (84, .sl 0 0 2 2 1), (85, n1 13)] q384 (.cons (put_ne rfl b374) (.cons (put_ne rfl e370) (.cons put_same .nil))) ?_
   refine all1 kr fun vs ls H385 E385 st hE => ?_
   have gz : Grew H H385 := (Grew.trans g382 (gk st))
   have sz := (sS378.grew (st.inn.kept.grew (Nat.le_refl _)))
   have q9 : ((pkL rs i14) ++ [[.int .u8 w367], [.int .u8 w368]]) = pktL rs := by
    have hx9 : ∀ x : Int, 0 ≤ x → x % 65521 / 256 % 256 = x % 65521 / 256 := fun x h => by omega
    unfold pktL; rw [hi9, ← hi8, hw367, hw368, b8_0, b8_8, Int.tmod_eq_emod_of_nonneg hs0, hx9 _ hs0]; rfl
   exact re st hE (S378) gz.next ⟨gz, by rw [← q9]; exact sz, fr381⟩
end Go.Proofs.Ytnleibiniajbnaa
