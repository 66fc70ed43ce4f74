/- Contracts: spots between two spots, by both. -/
import Derived.Test.YtnleibiniajbnaaTSpotL
set_option linter.unusedVariables false
set_option linter.unusedSimpArgs false
namespace Go.Proofs.Ytnleibiniajbnaa
open Go.Ab
set_option maxRecDepth 100000
set_option maxHeartbeats 1000000
attribute [local irreducible] Res
def nX (a0 a1 b0 b1 : Int) : Int := mxI (mxI (mxI (b0 - a0) (a0 - b0)) (b1 - a1)) (a1 - b1)
def cdX (a d n k : Int) : Int := IntKind.i16.wrap (IntKind.i64.wrap (a + floorX (IntKind.i64.wrap (IntKind.i64.wrap (IntKind.i64.wrap (2 * k) * d) + n)) (IntKind.i64.wrap (2 * n))))
def spotX (a0 a1 b0 b1 k : Int) : List AV := [.int .i16 (cdX a0 (b0 - a0) (nX a0 a1 b0 b1) k), .int .i16 (cdX a1 (b1 - a1) (nX a0 a1 b0 b1) k)]
def lineT (a0 a1 b0 b1 : Int) : Nat → List (List AV)
 | 0 => []
 | k + 1 => lineT a0 a1 b0 b1 k ++ [spotX a0 a1 b0 b1 (k : Int)]
theorem lineT_len (a0 a1 b0 b1 : Int) : ∀ k, (lineT a0 a1 b0 b1 k).length = k
 | 0 => rfl
 | k + 1 => by
  have ih := lineT_len a0 a1 b0 b1 k
  simp only [lineT, List.length_append, List.length_singleton, ih]
theorem lineT_recs (a0 a1 b0 b1 : Int) : ∀ k, Recs KS (lineT a0 a1 b0 b1 k)
 | 0 => .nil
 | k + 1 => Recs.append (lineT_recs a0 a1 b0 b1 k) (Recs.one (ks := KS) (.cons ⟨_, rfl⟩ (.cons ⟨_, rfl⟩ .nil)))
theorem nX_bd {a0 a1 b0 b1 : Int} (ha0 : 0 ≤ a0 ∧ a0 ≤ 23) (ha1 : 0 ≤ a1 ∧ a1 ≤ 23) (hb0 : 0 ≤ b0 ∧ b0 ≤ 23) (hb1 : 0 ≤ b1 ∧ b1 ≤ 23) : 0 ≤ nX a0 a1 b0 b1 ∧ nX a0 a1 b0 b1 ≤ 23 := by
 unfold nX mxI
 repeat' split
 all_goals omega
theorem wrap_i16 {x : Int} (h0 : -32768 ≤ x) (h1 : x ≤ 32767) : IntKind.i16.wrap x = x := by
 simp only [IntKind.wrap, IntKind.bits, IntKind.signed]
 simp
 omega
theorem cd0 {a d n : Int} (ha : 0 ≤ a ∧ a ≤ 23) (hn : 0 ≤ n ∧ n ≤ 23) : cdX a d n 0 = a := by
 have e1 : IntKind.i64.wrap (2 * 0) = 0 := wrap_i64 (by omega) (by omega)
 have e2 : IntKind.i64.wrap (2 * n) = 2 * n := wrap_i64 (by omega) (by omega)
 have e3 : IntKind.i64.wrap 0 = 0 := wrap_i64 (by omega) (by omega)
 have e4 : IntKind.i64.wrap n = n := wrap_i64 (by omega) (by omega)
 have hq : Int.tdiv n (2 * n) = 0 := by
  rcases Int.lt_or_le 0 n with h | h
  ·
   exact Int.tdiv_eq_zero_of_lt hn.1 (by omega)
  ·
   obtain rfl : n = 0 := by omega
   rfl
 have hm : ¬ Int.tmod n (2 * n) < 0 := by
  have := Int.tmod_nonneg (2 * n) hn.1
  omega
 have e5 : floorX n (2 * n) = 0 := by unfold floorX; rw [if_neg hm, hq, e3]
 have e6 : IntKind.i64.wrap a = a := wrap_i64 (by omega) (by omega)
 unfold cdX
 rw [e1, Int.zero_mul, e3, Int.zero_add, e4, e2, e5, Int.add_zero, e6]
 exact wrap_i16 (by omega) (by omega)
theorem line1 {a0 a1 b0 b1 : Int} (ha0 : 0 ≤ a0 ∧ a0 ≤ 23) (ha1 : 0 ≤ a1 ∧ a1 ≤ 23) (hb0 : 0 ≤ b0 ∧ b0 ≤ 23) (hb1 : 0 ≤ b1 ∧ b1 ≤ 23) : lineT a0 a1 b0 b1 (0 + 1) = [[.int .i16 a0, .int .i16 a1]] := by
 have hn := nX_bd ha0 ha1 hb0 hb1
 show [] ++ [spotX a0 a1 b0 b1 0] = _
 unfold spotX
 rw [cd0 ha0 hn, cd0 ha1 hn]; rfl

theorem k_spotsBetween (H : AHeap) (a0 a1 b0 b1 : Int) (ha0 : 0 ≤ a0 ∧ a0 ≤ 23) (ha1 : 0 ≤ a1 ∧ a1 ≤ 23) (hb0 : 0 ≤ b0 ∧ b0 ≤ 23) (hb1 : 0 ≤ b1 ∧ b1 ≤ 23) : ACalls Try.prog 74 [.agg [.int .i16 a0, .int .i16 a1], .agg [.int .i16 b0, .int .i16 b1]] H fun r H' => Grew H H' ∧ SlW H' 2 (lineT a0 a1 b0 b1 ((nX a0 a1 b0 b1).toNat + 1)) r ∧ FreshS H.next r := by
 refine res_start h_impl_spotsBetween (by simp) ?_
 have ea0 : IntKind.i64.wrap a0 = a0 := wrap_i64 (by omega) (by omega)
 have ea1 : IntKind.i64.wrap a1 = a1 := wrap_i64 (by omega) (by omega)
 have eb0 : IntKind.i64.wrap b0 = b0 := wrap_i64 (by omega) (by omega)
 have eb1 : IntKind.i64.wrap b1 = b1 := wrap_i64 (by omega) (by omega)
 have ed : IntKind.i64.wrap (b0 - a0) = b0 - a0 := wrap_i64 (by omega) (by omega)
 have ee : IntKind.i64.wrap (b1 - a1) = b1 - a1 := wrap_i64 (by omega) (by omega)
 have ef : IntKind.i64.wrap (0 - (b0 - a0)) = a0 - b0 := by rw [wrap_i64 (by omega) (by omega)]; omega
 have eg : IntKind.i64.wrap (0 - (b1 - a1)) = a1 - b1 := by rw [wrap_i64 (by omega) (by omega)]; omega
 have hnb := nX_bd ha0 ha1 hb0 hb1
 have q1 : KdsL [.int .i16, .int .i16, .int .i16, .int .i16] [.int .i16 a0, .int .i16 a1, .int .i16 b0, .int .i16 b1] := .cons ⟨_, rfl⟩ (.cons ⟨_, rfl⟩ (.cons ⟨_, rfl⟩ (.cons ⟨_, rfl⟩ .nil)))
 refine run_mc (φ := φ0) (pm := pmR 0 [] 0) 20 (ws := []) (env := [(0, .agg [.nd 0 (.int .i16), .nd 1 (.int .i16)]), (1, .agg [.nd 2 (.int .i16), .nd 3 (.int .i16)])]) q1 .nil (sepOk_ro rfl) .nil (eC q1 (.cons (t := 0) rfl (.cons (t := 1) rfl .nil))) tb_ok ap_ok ?_
 refine all1 (by kernel_rfl) ?_
 intro vs ls H2 E2 st hE
 obtain ⟨p3, e4, r5, n6⟩ := ptr_of st.inn hE 2 0 (by kernel_rfl) (ds := [.int .i16 a0, .int .i16 a1]) (by kernel_rfl)
 have op3 : H.next ≤ p3 := Nat.le_trans (Nat.le_refl _) (n6 (Nat.le_of_ble_eq_true rfl))
 obtain ⟨w7, hw7⟩ : ∃ z, z = (IntKind.wrap .i64 ((IntKind.wrap .i64 b0) - (IntKind.wrap .i64 a0))) := ⟨_, rfl⟩
 have b8 : E2 28 = .int .i64 w7 := by rw [hw7]; exact eo st hE 28 _
 obtain ⟨w9, hw9⟩ : ∃ z, z = (IntKind.wrap .i64 (0 - (IntKind.wrap .i64 ((IntKind.wrap .i64 b0) - (IntKind.wrap .i64 a0))))) := ⟨_, rfl⟩
 have b10 : E2 30 = .int .i64 w9 := by rw [hw9]; exact eo st hE 30 _
 obtain ⟨w11, hw11⟩ : ∃ z, z = (IntKind.wrap .i64 ((IntKind.wrap .i64 b1) - (IntKind.wrap .i64 a1))) := ⟨_, rfl⟩
 have b12 : E2 31 = .int .i64 w11 := by rw [hw11]; exact eo st hE 31 _
 obtain ⟨w13, hw13⟩ : ∃ z, z = (IntKind.wrap .i64 (0 - (IntKind.wrap .i64 ((IntKind.wrap .i64 b1) - (IntKind.wrap .i64 a1))))) := ⟨_, rfl⟩
 have b14 : E2 33 = .int .i64 w13 := by rw [hw13]; exact eo st hE 33 _
 obtain ⟨w15, hw15⟩ : ∃ z, z = (IntKind.wrap .i64 a0) := ⟨_, rfl⟩
 have b16 : E2 5 = .int .i64 w15 := by rw [hw15]; exact eo st hE 5 _
 have b17 : E2 7 = .int .i64 w7 := by rw [hw7]; exact eo st hE 7 _
 obtain ⟨w18, hw18⟩ : ∃ z, z = (IntKind.wrap .i64 a1) := ⟨_, rfl⟩
 have b19 : E2 6 = .int .i64 w18 := by rw [hw18]; exact eo st hE 6 _
 have b20 : E2 8 = .int .i64 w11 := by rw [hw11]; exact eo st hE 8 _
 have g21 : Grew H H2 := (gk st)
 have g22 : Grew H H2 := Grew.trans (Grew.refl _) g21
 clear st hE vs ls
 simp only [ea0, ea1, eb0, eb1, ed, ee, ef, eg] at hw7 hw9 hw11 hw13 hw15 hw18
 have hmx4 : mxI (mxI (mxI w7 w9) w11) w13 = nX a0 a1 b0 b1 := by rw [hw7, hw9, hw11, hw13]; rfl
 refine res_max4 (d := some 34) (x := .tmp 28) (y := .tmp 30) (z := .tmp 31) (u := .tmp 33) (r := .int .i64 (nX a0 a1 b0 b1)) (by kernel_rfl) (max4_val b8 b10 b12 b14 hmx4) ?_
 have q23 := q1.app (.cons ⟨_, rfl⟩ (.cons ⟨_, rfl⟩ (.cons ⟨_, rfl⟩ (.cons ⟨_, rfl⟩ (.cons ⟨_, rfl⟩ (.cons ⟨_, rfl⟩ (.cons ⟨_, rfl⟩ .nil)))))) : KdsL [KI, KI, KI, KI, KI, KI, KI] [.int .i64 w7, .int .i64 w9, .int .i64 w11, .int .i64 w13, .int .i64 w15, .int .i64 w18, .int .i64 (nX a0 a1 b0 b1)])
 refine run_mc (φ := φ0) (pm := pmR 1 [] 0) 20 (ws := [⟨p3, 0, [.nd 0 (.int .i16), .nd 1 (.int .i16)], false⟩]) (env := [(28, nI 4), (30, nI 5), (31, nI 6), (33, nI 7), (2, .ptr 0 0), (5, nI 8), (7, nI 4), (6, nI 9), (8, nI 6), (34, nI 10)]) q23 (.cons (wR r5 q23) .nil) (sepOk_ro rfl) .nil (eC q23 (.cons (put_ne rfl b8) (.cons (put_ne rfl b10) (.cons (put_ne rfl b12) (.cons (put_ne rfl b14) (.cons (put_ne rfl e4) (.cons (put_ne rfl b16) (.cons (put_ne rfl b17) (.cons (put_ne rfl b19) (.cons (put_ne rfl b20) (.cons put_same .nil))))))))))) tb_ok ap_ok ?_
 refine all1 (by kernel_rfl) ?_
 intro vs ls H24 E24 st hE
 obtain ⟨p25, e26, r27, n28⟩ := sl_of st.inn hE 10 1 1 1 2 (by kernel_rfl) (ds := [.int .i16 a0, .int .i16 a1]) (by kernel_rfl)
 have op25 : H.next ≤ p25 := Nat.le_trans g22.next (n28 (Nat.le_of_ble_eq_true rfl))
 have ne29 := apn r5 (n28 (Nat.le_of_ble_eq_true rfl))
 have b30 := eo st hE 11 (.int .i64 1)
 have b31 := eo st hE 9 (.int .i64 (nX a0 a1 b0 b1))
 have b32 := eo st hE 5 (.int .i64 w15)
 have b33 := eo st hE 7 (.int .i64 w7)
 have b34 := eo st hE 6 (.int .i64 w18)
 have b35 := eo st hE 8 (.int .i64 w11)
 have g36 : Grew H2 H24 := (gk st)
 have g37 : Grew H H24 := Grew.trans g22 g36
 clear st hE vs ls
 refine res_loop (by kernel_rfl) (fun z E H' => ∃ (i : Nat) (acc39_0 : AV), z + i = (nX a0 a1 b0 b1).toNat ∧ E 9 = .int .i64 (nX a0 a1 b0 b1) ∧ E 5 = .int .i64 w15 ∧ E 7 = .int .i64 w7 ∧ E 6 = .int .i64 w18 ∧ E 8 = .int .i64 w11 ∧ E 11 = .int .i64 ((i : Int) + 1) ∧ E 10 = acc39_0 ∧ Grew H H' ∧ SlF H' 2 (lineT a0 a1 b0 b1 (i + 1)) acc39_0 ∧ FreshS H.next acc39_0) ((nX a0 a1 b0 b1).toNat) ⟨0, .slice p25 0 1 1 2, by omega, b31, b32, b33, b34, b35, b30, e26, g37, (.sl (by rw [line1 ha0 ha1 hb0 hb1]; simpa using r27) rfl (Nat.le_refl _)), (FreshS.of_le op25)⟩ ?_
 rintro z39 Ei39 Hi39 ⟨i39, acc39_0, hz39, c39_9, c39_5, c39_7, c39_6, c39_8, ci39, ca39_0, gt39, s39_0, f39_0⟩
 have hln39_0 : ((lineT a0 a1 b0 b1 (i39 + 1))).length = i39 + 1 := lineT_len _ _ _ _ _
 have q40 := q23.app (.cons ⟨_, rfl⟩ (.cons s39_0.one .nil) : KdsL [KI, .one] [.int .i64 ((i39 : Int) + 1), acc39_0])
 refine run_mc (φ := φ0) (pm := pmR 0 [] 0) 20 (ws := []) (env := [(9, nI 10), (5, nI 8), (7, nI 4), (6, nI 9), (8, nI 6), (11, nI 11), (10, n1 12)]) q40 .nil (sepOk_ro rfl) .nil (eC q40 (.cons c39_9 (.cons c39_5 (.cons c39_7 (.cons c39_6 (.cons c39_8 (.cons ci39 (.cons ca39_0 .nil)))))))) tb_ok ap_ok ?_
 refine all2 (by kernel_rfl) ?_ ?_
 ·
  intro vs ls H41 E41 st hE
  have f42 : ¬ ((nX a0 a1 b0 b1) < ((i39 : Int) + 1)) := df st 0
  obtain ⟨w43, hw43⟩ : ∃ z, z = (IntKind.wrap .i64 ((IntKind.wrap .i64 ((IntKind.wrap .i64 (2 * ((i39 : Int) + 1))) * w7)) + (nX a0 a1 b0 b1))) := ⟨_, rfl⟩
  have b44 : E41 49 = .int .i64 w43 := by rw [hw43]; exact eo st hE 49 _
  obtain ⟨w45, hw45⟩ : ∃ z, z = (IntKind.wrap .i64 (2 * (nX a0 a1 b0 b1))) := ⟨_, rfl⟩
  have b46 : E41 51 = .int .i64 w45 := by rw [hw45]; exact eo st hE 51 _
  have b47 := eo st hE 43 (.int .i64 w15)
  have b48 := eo st hE 6 (.int .i64 w18)
  have b49 := eo st hE 11 (.int .i64 ((i39 : Int) + 1))
  have b50 := eo st hE 8 (.int .i64 w11)
  have b51 := eo st hE 9 (.int .i64 (nX a0 a1 b0 b1))
  have b52 := eo st hE 42 acc39_0
  have b53 := eo st hE 5 (.int .i64 w15)
  have b54 := eo st hE 7 (.int .i64 w7)
  have b55 := eo st hE 10 acc39_0
  have g56 : Grew Hi39 H41 := (gk st)
  have g57 : Grew H H41 := Grew.trans gt39 g56
  have s58 := s39_0.grew g56
  clear st hE vs ls
  have q59 := q40.app (.cons ⟨_, rfl⟩ (.cons ⟨_, rfl⟩ (.cons ⟨_, rfl⟩ .nil)) : KdsL [KI, KI, KI] [.int .i64 w43, .int .i64 w45, .int .i64 (floorX w43 w45)])
  refine run_mc (φ := φ0) (pm := pmR 0 [(.call 113 [nI 13, nI 14], nI 15)] 0) 20 (ws := []) (env := [(49, nI 13), (51, nI 14), (43, nI 8), (6, nI 9), (11, nI 11), (8, nI 6), (9, nI 10), (42, n1 12), (5, nI 8), (7, nI 4), (10, n1 12)]) q59 .nil (sepOk_ro rfl) (.cons (rule_call (args := [.int .i64 w43, .int .i64 w45]) (r := .int .i64 (floorX w43 w45)) (dL q59) (dE q59) (fun H9 hk => k_quotient H9 w43 w45 (by have hz := hw45; rw [wrap_i64 (by omega) (by omega)] at hz; omega))) .nil) (eC q59 (.cons b44 (.cons b46 (.cons b47 (.cons b48 (.cons b49 (.cons b50 (.cons b51 (.cons b52 (.cons b53 (.cons b54 (.cons b55 .nil)))))))))))) tb_ok ap_ok ?_
  refine all1 (by kernel_rfl) ?_
  intro vs ls H60 E60 st hE
  obtain ⟨w61, hw61⟩ : ∃ z, z = (IntKind.wrap .i64 ((IntKind.wrap .i64 ((IntKind.wrap .i64 (2 * ((i39 : Int) + 1))) * w11)) + (nX a0 a1 b0 b1))) := ⟨_, rfl⟩
  have b62 : E60 61 = .int .i64 w61 := by rw [hw61]; exact eo st hE 61 _
  obtain ⟨w63, hw63⟩ : ∃ z, z = (IntKind.wrap .i64 (2 * (nX a0 a1 b0 b1))) := ⟨_, rfl⟩
  have b64 : E60 63 = .int .i64 w63 := by rw [hw63]; exact eo st hE 63 _
  have b65 := eo st hE 55 (.int .i64 w18)
  obtain ⟨w66, hw66⟩ : ∃ z, z = (IntKind.wrap .i16 (IntKind.wrap .i64 (w15 + (floorX w43 w45)))) := ⟨_, rfl⟩
  have b67 : E60 54 = .int .i16 w66 := by rw [hw66]; exact eo st hE 54 _
  have b68 := eo st hE 42 acc39_0
  have b69 := eo st hE 11 (.int .i64 ((i39 : Int) + 1))
  have b70 := eo st hE 9 (.int .i64 (nX a0 a1 b0 b1))
  have b71 := eo st hE 5 (.int .i64 w15)
  have b72 := eo st hE 7 (.int .i64 w7)
  have b73 := eo st hE 6 (.int .i64 w18)
  have b74 := eo st hE 8 (.int .i64 w11)
  have b75 := eo st hE 10 acc39_0
  have g76 : Grew H41 H60 := (gk st)
  have g77 : Grew H H60 := Grew.trans g57 g76
  have s78 := s58.grew g76
  clear st hE vs ls
  have q79 := q59.app (.cons ⟨_, rfl⟩ (.cons ⟨_, rfl⟩ (.cons ⟨_, rfl⟩ (.cons ⟨_, rfl⟩ .nil))) : KdsL [KI, KI, .int .i16, KI] [.int .i64 w61, .int .i64 w63, .int .i16 w66, .int .i64 (floorX w61 w63)])
  refine run_mc (φ := φ0) (pm := pmR 0 [(.call 113 [nI 16, nI 17], nI 19)] 0) 20 (ws := []) (env := [(61, nI 16), (63, nI 17), (55, nI 9), (54, .nd 18 (.int .i16)), (42, n1 12), (11, nI 11), (9, nI 10), (5, nI 8), (7, nI 4), (6, nI 9), (8, nI 6), (10, n1 12)]) q79 .nil (sepOk_ro rfl) (.cons (rule_call (args := [.int .i64 w61, .int .i64 w63]) (r := .int .i64 (floorX w61 w63)) (dL q79) (dE q79) (fun H9 hk => k_quotient H9 w61 w63 (by have hz := hw63; rw [wrap_i64 (by omega) (by omega)] at hz; omega))) .nil) (eC q79 (.cons b62 (.cons b64 (.cons b65 (.cons b67 (.cons b68 (.cons b69 (.cons b70 (.cons b71 (.cons b72 (.cons b73 (.cons b74 (.cons b75 .nil))))))))))))) tb_ok ap_ok ?_
  refine all1 (by kernel_rfl) ?_
  intro vs ls H80 E80 st hE
  obtain ⟨w81, hw81⟩ : ∃ z, z = (IntKind.wrap .i16 (IntKind.wrap .i64 (w18 + (floorX w61 w63)))) := ⟨_, rfl⟩
  obtain ⟨p82, e83, r84, n85⟩ := sl_of st.inn hE 68 0 1 1 2 (by kernel_rfl) (ds := [.int .i16 w66, .int .i16 (IntKind.wrap .i16 (IntKind.wrap .i64 (w18 + (floorX w61 w63))))]) (by kernel_rfl)
  rw [← hw81] at r84
  have op82 : H.next ≤ p82 := Nat.le_trans g77.next (n85 (Nat.le_of_ble_eq_true rfl))
  have ne86 : ApartL (acc39_0) p82 := s78.apart_new (n85 (Nat.le_of_ble_eq_true rfl))
  have b87 := eo st hE 42 acc39_0
  have b88 := eo st hE 11 (.int .i64 ((i39 : Int) + 1))
  have b89 := eo st hE 9 (.int .i64 (nX a0 a1 b0 b1))
  have b90 := eo st hE 5 (.int .i64 w15)
  have b91 := eo st hE 7 (.int .i64 w7)
  have b92 := eo st hE 6 (.int .i64 w18)
  have b93 := eo st hE 8 (.int .i64 w11)
  have b94 := eo st hE 10 acc39_0
  have g95 : Grew H60 H80 := (gk st)
  have g96 : Grew H H80 := Grew.trans g77 g95
  have s97 := s78.grew g95
  clear st hE vs ls
  refine res_append (d := (some 69)) (sz := 2) (bytes := 4) (x := .tmp 42) (y := .tmp 68) (by kernel_rfl) (S := acc39_0) (ms := (lineT a0 a1 b0 b1 (i39 + 1))) (ys := [[.int .i16 w66, .int .i16 w81]]) (by show E80 42 = _; exact b87) s97 (lineT_recs a0 a1 b0 b1 (i39 + 1)).len (by show srcCells _ _ (E80 68) = _; rw [e83]; exact src_one r84 rfl) (recs_one (ks := KS) (Recs.one (ks := KS) (.cons ⟨_, rfl⟩ (.cons ⟨_, rfl⟩ .nil))) rfl) (by show (2 * ((lineT a0 a1 b0 b1 (i39 + 1)).length + 1) + 192) * 4 ≤ 281474976710656; omega) ?_
  intro S98 H99 sS98 fS98 oS98
  have ne100 : ApartL (S98) p82 := fS98.apartL (H80.lt_of_get r84) (by assumption)
  have fr101 : FreshS H.next (S98) := fS98.fresh f39_0 g96.next
  have g102 : Grew H H99 := OnlyS.own g96 f39_0 oS98
  have r103 := oS98.at r84 (by assumption)
  have q104 := q79.app (.cons ⟨_, rfl⟩ (.cons sS98.one .nil) : KdsL [.int .i16, .one] [.int .i16 w81, S98])
  refine run_mc (φ := φ0) (pm := pmR 1 [] 0) 20 (ws := [⟨p82, 0, [.nd 18 (.int .i16), .nd 20 (.int .i16)], false⟩]) (env := [(42, n1 12), (68, .sl 0 0 1 1 2), (11, nI 11), (9, nI 10), (5, nI 8), (7, nI 4), (6, nI 9), (8, nI 6), (10, n1 12), (69, n1 21)]) q104 (.cons (wR r103 q104) .nil) (sepOk_ro rfl) .nil (eC q104 (.cons (put_ne rfl b87) (.cons (put_ne rfl e83) (.cons (put_ne rfl b88) (.cons (put_ne rfl b89) (.cons (put_ne rfl b90) (.cons (put_ne rfl b91) (.cons (put_ne rfl b92) (.cons (put_ne rfl b93) (.cons (put_ne rfl b94) (.cons put_same .nil))))))))))) tb_ok ap_ok ?_
  refine all1 (by kernel_rfl) ?_
  intro vs ls H105 E105 st hE
  obtain ⟨w106, hw106⟩ : ∃ z, z = (IntKind.wrap .i64 (((i39 : Int) + 1) + 1)) := ⟨_, rfl⟩
  have b107 : E105 11 = .int .i64 w106 := by rw [hw106]; exact eo st hE 11 _
  have b108 := eo st hE 9 (.int .i64 (nX a0 a1 b0 b1))
  have b109 := eo st hE 5 (.int .i64 w15)
  have b110 := eo st hE 7 (.int .i64 w7)
  have b111 := eo st hE 6 (.int .i64 w18)
  have b112 := eo st hE 8 (.int .i64 w11)
  have b113 := eo st hE 10 S98
  have g114 : Grew H99 H105 := (gk st)
  have g115 : Grew H H105 := Grew.trans g102 g114
  have s117 := sS98.grew g114
  clear st hE vs ls
  have hz9 : z39 - 1 < z39 := by omega
  have hy9 : z39 - 1 + (i39 + 1) = (nX a0 a1 b0 b1).toNat := by omega
  have hi9 : E105 11 = .int .i64 (((i39 + 1 : Nat) : Int) + 1) := by rw [b107, hw106, wrap_i64 (by omega) (by omega)]; rfl
  have hs9 : lineT a0 a1 b0 b1 (i39 + 1 + 1) = ((lineT a0 a1 b0 b1 (i39 + 1)) ++ [[.int .i16 w66, .int .i16 w81]]) := by
   show lineT a0 a1 b0 b1 (i39 + 1) ++ [spotX a0 a1 b0 b1 ((i39 + 1 : Nat) : Int)] = _
   unfold spotX cdX
   simp only [hw66, hw81, hw43, hw45, hw61, hw63]
   try simp only [hw7, hw11, hw15, hw18, ea0, ea1]
   all_goals rfl
  exact res_norm (by kernel_rfl) ⟨z39 - 1, hz9, i39 + 1, S98, hy9, b108, b109, b110, b111, b112, hi9, b113, g115, (by rw [hs9]; exact s117), fr101⟩
 ·
  intro vs ls H118 E118 st hE
  have f119 : (nX a0 a1 b0 b1) < ((i39 : Int) + 1) := dt st 0
  have b120 := eo st hE 11 (.int .i64 ((i39 : Int) + 1))
  have b121 := eo st hE 9 (.int .i64 (nX a0 a1 b0 b1))
  have b122 := eo st hE 37 (.int .i64 ((i39 : Int) + 1))
  have b123 := eo st hE 38 (.int .i64 (nX a0 a1 b0 b1))
  obtain ⟨w124, hw124⟩ : ∃ z, z = (!(decide ((nX a0 a1 b0 b1) < ((i39 : Int) + 1)))) := ⟨_, rfl⟩
  have b125 : E118 39 = .bool w124 := by rw [hw124]; exact eo st hE 39 _
  have b126 := eo st hE 10 acc39_0
  have b127 := eo st hE 5 (.int .i64 w15)
  have b128 := eo st hE 7 (.int .i64 w7)
  have b129 := eo st hE 6 (.int .i64 w18)
  have b130 := eo st hE 8 (.int .i64 w11)
  have g131 : Grew Hi39 H118 := (gk st)
  have g132 : Grew H H118 := Grew.trans gt39 g131
  have s133 := s39_0.grew g131
  clear st hE vs ls
  refine res_exit (id := 0) (by kernel_rfl) ?_
  have q134 := q40.app (.cons ⟨_, rfl⟩ .nil : KdsL [.bool] [.bool w124])
  refine run_mc (φ := φ0) (pm := pmR 0 [] 0) 20 (ws := []) (env := [(11, nI 11), (9, nI 10), (37, nI 11), (38, nI 10), (39, nB 13), (10, n1 12), (5, nI 8), (7, nI 4), (6, nI 9), (8, nI 6)]) q134 .nil (sepOk_ro rfl) .nil (eC q134 (.cons b120 (.cons b121 (.cons b122 (.cons b123 (.cons b125 (.cons b126 (.cons b127 (.cons b128 (.cons b129 (.cons b130 .nil))))))))))) tb_ok ap_ok ?_
  refine all1 (by kernel_rfl) ?_
  intro vs ls H135 E135 st hE
  have gz : Grew H H135 := (Grew.trans g132 (gk st))
  exact res_ex (by kernel_rfl) (end_same st.inn hE (.inr rfl) (a := acc39_0) (by kernel_rfl) gz.next ⟨gz, (by rw [show (nX a0 a1 b0 b1).toNat = i39 by omega]; exact ((s133.grew (st.inn.kept.grew (Nat.le_refl _)))).toW), f39_0⟩)
-- SPEC
def tbX : List (Nat × AFun) := tb.filter fun p => !(p.1 == 111 || p.1 == 112)
theorem tbX_ok : TbOk Try.prog tbX := fun f a h => tb_ok f a (List.mem_filter.1 h).1
def pmX (fl : Nat) (ru : List (RK × SV)) (un : Nat) : Pm := ⟨fl, ru, tbX, ap, un⟩
theorem k_l07Line (H : AHeap) (a0 a1 b0 b1 : Int) (ha0 : 0 ≤ a0 ∧ a0 ≤ 23) (ha1 : 0 ≤ a1 ∧ a1 ≤ 23) (hb0 : 0 ≤ b0 ∧ b0 ≤ 23) (hb1 : 0 ≤ b1 ∧ b1 ≤ 23) : ACalls Try.prog 73 [.agg [.int .i16 a0, .int .i16 a1], .agg [.int .i16 b0, .int .i16 b1]] H fun r H' => Grew H H' ∧ SlW H' 2 (lineT a0 a1 b0 b1 ((nX a0 a1 b0 b1).toNat + 1)) r ∧ FreshS H.next r := by
 refine res_start h_spec_l07Line (by simp) ?_
 have ea0 : IntKind.i64.wrap a0 = a0 := wrap_i64 (by omega) (by omega)
 have ea1 : IntKind.i64.wrap a1 = a1 := wrap_i64 (by omega) (by omega)
 have eb0 : IntKind.i64.wrap b0 = b0 := wrap_i64 (by omega) (by omega)
 have eb1 : IntKind.i64.wrap b1 = b1 := wrap_i64 (by omega) (by omega)
 have ed : IntKind.i64.wrap (b0 - a0) = b0 - a0 := wrap_i64 (by omega) (by omega)
 have ee : IntKind.i64.wrap (b1 - a1) = b1 - a1 := wrap_i64 (by omega) (by omega)
 have ef : IntKind.i64.wrap (0 - (b0 - a0)) = a0 - b0 := by rw [wrap_i64 (by omega) (by omega)]; omega
 have eg : IntKind.i64.wrap (0 - (b1 - a1)) = a1 - b1 := by rw [wrap_i64 (by omega) (by omega)]; omega
 have hnb := nX_bd ha0 ha1 hb0 hb1
 have q1 : KdsL [.int .i16, .int .i16, .int .i16, .int .i16] [.int .i16 a0, .int .i16 a1, .int .i16 b0, .int .i16 b1] := .cons ⟨_, rfl⟩ (.cons ⟨_, rfl⟩ (.cons ⟨_, rfl⟩ (.cons ⟨_, rfl⟩ .nil)))
 refine run_mc (φ := φ0) (pm := pmX 0 [] 0) 20 (ws := []) (env := [(0, .agg [.nd 0 (.int .i16), .nd 1 (.int .i16)]), (1, .agg [.nd 2 (.int .i16), .nd 3 (.int .i16)])]) q1 .nil (sepOk_ro rfl) .nil (eC q1 (.cons (t := 0) rfl (.cons (t := 1) rfl .nil))) tbX_ok ap_ok ?_
 refine all1 (by kernel_rfl) ?_
 intro vs ls H2 E2 st hE
 obtain ⟨p3, e4, r5, n6⟩ := ptr_of st.inn hE 2 0 (by kernel_rfl) (ds := [.int .i16 a0, .int .i16 a1]) (by kernel_rfl)
 have op3 : H.next ≤ p3 := Nat.le_trans (Nat.le_refl _) (n6 (Nat.le_of_ble_eq_true rfl))
 obtain ⟨w7, hw7⟩ : ∃ z, z = (IntKind.wrap .i64 ((IntKind.wrap .i64 b0) - (IntKind.wrap .i64 a0))) := ⟨_, rfl⟩
 have b8 : E2 26 = .int .i64 w7 := by rw [hw7]; exact eo st hE 26 _
 obtain ⟨w9, hw9⟩ : ∃ z, z = (IntKind.wrap .i64 (0 - (IntKind.wrap .i64 ((IntKind.wrap .i64 b0) - (IntKind.wrap .i64 a0))))) := ⟨_, rfl⟩
 have b10 : E2 28 = .int .i64 w9 := by rw [hw9]; exact eo st hE 28 _
 obtain ⟨w11, hw11⟩ : ∃ z, z = (IntKind.wrap .i64 ((IntKind.wrap .i64 b1) - (IntKind.wrap .i64 a1))) := ⟨_, rfl⟩
 have b12 : E2 6 = .int .i64 w11 := by rw [hw11]; exact eo st hE 6 _
 have b13 : E2 5 = .int .i64 w7 := by rw [hw7]; exact eo st hE 5 _
 have g14 : Grew H H2 := (gk st)
 have g15 : Grew H H2 := Grew.trans (Grew.refl _) g14
 clear st hE vs ls
 have q16 := q1.app (.cons ⟨_, rfl⟩ (.cons ⟨_, rfl⟩ (.cons ⟨_, rfl⟩ (.cons ⟨_, rfl⟩ .nil))) : KdsL [KI, KI, KI, KI] [.int .i64 w7, .int .i64 w9, .int .i64 w11, .int .i64 (mxI w7 w9)])
 refine run_mc (φ := φ0) (pm := pmX 1 [(.call 111 [nI 4, nI 5], nI 7)] 0) 20 (ws := [⟨p3, 0, [.nd 0 (.int .i16), .nd 1 (.int .i16)], false⟩]) (env := [(26, nI 4), (28, nI 5), (6, nI 6), (2, .ptr 0 0), (5, nI 4)]) q16 (.cons (wR r5 q16) .nil) (sepOk_ro rfl) (.cons (rule_call (args := [.int .i64 w7, .int .i64 w9]) (dL q16) (dE q16) (fun H9 hk => k_l00Max H9 w7 w9)) .nil) (eC q16 (.cons b8 (.cons b10 (.cons b12 (.cons e4 (.cons b13 .nil)))))) tbX_ok ap_ok ?_
 refine all1 (by kernel_rfl) ?_
 intro vs ls H17 E17 st hE
 have b18 := eo st hE 30 (.int .i64 w11)
 obtain ⟨w19, hw19⟩ : ∃ z, z = (IntKind.wrap .i64 (0 - w11)) := ⟨_, rfl⟩
 have b20 : E17 32 = .int .i64 w19 := by rw [hw19]; exact eo st hE 32 _
 have b21 := eo st hE 29 (.int .i64 (mxI w7 w9))
 have b22 := eo st hE 2 (.ptr p3 0)
 have b23 := eo st hE 5 (.int .i64 w7)
 have b24 := eo st hE 6 (.int .i64 w11)
 have g25 : Grew H2 H17 := (gk st)
 have g26 : Grew H H17 := Grew.trans g15 g25
 have r27 := g25.at r5
 clear st hE vs ls
 have q28 := q16.app (.cons ⟨_, rfl⟩ (.cons ⟨_, rfl⟩ (.cons ⟨_, rfl⟩ .nil)) : KdsL [KI, KI, KI] [.int .i64 w19, .int .i64 (mxI w11 w19), .int .i64 (mxI (mxI w7 w9) (mxI w11 w19))])
 refine run_mc (φ := φ0) (pm := pmX 1 [(.call 111 [nI 6, nI 8], nI 9), (.call 111 [nI 7, nI 9], nI 10)] 0) 20 (ws := [⟨p3, 0, [.nd 0 (.int .i16), .nd 1 (.int .i16)], false⟩]) (env := [(30, nI 6), (32, nI 8), (29, nI 7), (2, .ptr 0 0), (5, nI 4), (6, nI 6)]) q28 (.cons (wR r27 q28) .nil) (sepOk_ro rfl) (.cons (rule_call (args := [.int .i64 w11, .int .i64 w19]) (dL q28) (dE q28) (fun H9 hk => k_l00Max H9 w11 w19)) (.cons (rule_call (args := [.int .i64 (mxI w7 w9), .int .i64 (mxI w11 w19)]) (dL q28) (dE q28) (fun H9 hk => k_l00Max H9 (mxI w7 w9) (mxI w11 w19))) .nil)) (eC q28 (.cons b18 (.cons b20 (.cons b21 (.cons b22 (.cons b23 (.cons b24 .nil))))))) tbX_ok ap_ok ?_
 refine all2 (by kernel_rfl) ?_ ?_
 ·
  intro vs ls H29 E29 st hE
  have f30 : (mxI (mxI w7 w9) (mxI w11 w19)) = 0 := dt st 0
  have gz : Grew H H29 := (Grew.trans g26 (gk st))
  simp only [ea0, ea1, eb0, eb1, ed, ee, ef, eg] at hw7
  simp only [ea0, ea1, eb0, eb1, ed, ee, ef, eg] at hw9
  simp only [ea0, ea1, eb0, eb1, ed, ee, ef, eg] at hw11
  rw [hw11] at hw19
  simp only [ea0, ea1, eb0, eb1, ed, ee, ef, eg] at hw19
  have hmx : (mxI (mxI w7 w9) (mxI w11 w19)) = nX a0 a1 b0 b1 := by
   rw [hw7, hw9, hw11, hw19]
   unfold nX mxI
   repeat' split
   all_goals omega
  obtain ⟨pz, ez, rz, nz⟩ := sl_of st.inn hE 4 1 1 1 2 (by kernel_rfl) (ds := [.int .i16 a0, .int .i16 a1]) (by kernel_rfl)
  have oz : H.next ≤ pz := Nat.le_trans g26.next (nz (Nat.le_of_ble_eq_true rfl))
  exact res_ex (by kernel_rfl) (end_tmp1 (.inr rfl) ez gz.next ⟨gz, (by rw [show (nX a0 a1 b0 b1).toNat + 1 = 0 + 1 by omega, line1 ha0 ha1 hb0 hb1]; exact .sl (by simpa using rz) rfl (Nat.le_refl _)), .of_le oz⟩)
 ·
  simp only [ea0, ea1, eb0, eb1, ed, ee, ef, eg] at hw7
  simp only [ea0, ea1, eb0, eb1, ed, ee, ef, eg] at hw9
  simp only [ea0, ea1, eb0, eb1, ed, ee, ef, eg] at hw11
  rw [hw11] at hw19
  simp only [ea0, ea1, eb0, eb1, ed, ee, ef, eg] at hw19
  have hmx : (mxI (mxI w7 w9) (mxI w11 w19)) = nX a0 a1 b0 b1 := by
   rw [hw7, hw9, hw11, hw19]
   unfold nX mxI
   repeat' split
   all_goals omega
  intro vs ls H31 E31 st hE
  have f32 : ¬ ((mxI (mxI w7 w9) (mxI w11 w19)) = 0) := df st 0
  obtain ⟨p33, e34, r35, n36⟩ := sl_of st.inn hE 8 1 0 0 2 (by kernel_rfl) (ds := []) (by kernel_rfl)
  have op33 : H.next ≤ p33 := Nat.le_trans g26.next (n36 (Nat.le_of_ble_eq_true rfl))
  have ne37 := apn r27 (n36 (Nat.le_of_ble_eq_true rfl))
  have b38 := eo st hE 9 (.int .i64 0)
  have b39 := eo st hE 7 (.int .i64 (mxI (mxI w7 w9) (mxI w11 w19)))
  have b40 := eo st hE 2 (.ptr p3 0)
  have b41 := eo st hE 5 (.int .i64 w7)
  have b42 := eo st hE 6 (.int .i64 w11)
  have g43 : Grew H17 H31 := (gk st)
  have g44 : Grew H H31 := Grew.trans g26 g43
  have r45 := g43.at r27
  clear st hE vs ls
  refine res_loop (by kernel_rfl) (fun z E H' => ∃ (i : Nat) (acc46_0 : AV), z + i = ((nX a0 a1 b0 b1).toNat + 1) ∧ E 7 = .int .i64 (mxI (mxI w7 w9) (mxI w11 w19)) ∧ E 2 = .ptr p3 0 ∧ E 5 = .int .i64 w7 ∧ E 6 = .int .i64 w11 ∧ E 9 = .int .i64 (i : Int) ∧ E 8 = acc46_0 ∧ Grew H H' ∧ H'.get p3 = some (.row [.int .i16 a0, .int .i16 a1] true) ∧ SlF H' 2 (lineT a0 a1 b0 b1 i) acc46_0 ∧ FreshS H.next acc46_0 ∧ ApartL acc46_0 p3) (((nX a0 a1 b0 b1).toNat + 1)) ⟨0, .slice p33 0 0 0 2, by omega, b39, b40, b41, b42, b38, e34, g44, r45, (.sl (by simpa [lineT] using r35) rfl (Nat.le_refl _)), (FreshS.of_le op33), (ApartL.of (by first | assumption | exact Apart.symm (by assumption)))⟩ ?_
  rintro z46 Ei46 Hi46 ⟨i46, acc46_0, hz46, c46_7, c46_2, c46_5, c46_6, ci46, ca46_0, gt46, r46_0, s46_0, f46_0, ap46_0_0⟩
  have hln46_0 : ((lineT a0 a1 b0 b1 i46)).length = i46 + 0 := lineT_len _ _ _ _ _
  have q47 := q28.app (.cons ⟨_, rfl⟩ (.cons s46_0.one .nil) : KdsL [KI, .one] [.int .i64 (i46 : Int), acc46_0])
  refine run_mc (φ := φ0) (pm := pmX 1 [] 0) 20 (ws := [⟨p3, 0, [.nd 0 (.int .i16), .nd 1 (.int .i16)], false⟩]) (env := [(7, nI 10), (2, .ptr 0 0), (5, nI 4), (6, nI 6), (9, nI 11), (8, n1 12)]) q47 (.cons (wR r46_0 q47) .nil) (sepOk_ro rfl) .nil (eC q47 (.cons c46_7 (.cons c46_2 (.cons c46_5 (.cons c46_6 (.cons ci46 (.cons ca46_0 .nil))))))) tbX_ok ap_ok ?_
  refine all2 (by kernel_rfl) ?_ ?_
  ·
   intro vs ls H48 E48 st hE
   have f49 : ¬ ((mxI (mxI w7 w9) (mxI w11 w19)) < (i46 : Int)) := df st 0
   obtain ⟨w50, hw50⟩ : ∃ z, z = (IntKind.wrap .i64 ((IntKind.wrap .i64 ((IntKind.wrap .i64 (2 * (i46 : Int))) * w7)) + (mxI (mxI w7 w9) (mxI w11 w19)))) := ⟨_, rfl⟩
   have b51 : E48 53 = .int .i64 w50 := by rw [hw50]; exact eo st hE 53 _
   obtain ⟨w52, hw52⟩ : ∃ z, z = (IntKind.wrap .i64 (2 * (mxI (mxI w7 w9) (mxI w11 w19)))) := ⟨_, rfl⟩
   have b53 : E48 55 = .int .i64 w52 := by rw [hw52]; exact eo st hE 55 _
   obtain ⟨w54, hw54⟩ : ∃ z, z = (IntKind.wrap .i64 a0) := ⟨_, rfl⟩
   have b55 : E48 47 = .int .i64 w54 := by rw [hw54]; exact eo st hE 47 _
   have b56 := eo st hE 2 (.ptr p3 0)
   have b57 := eo st hE 9 (.int .i64 (i46 : Int))
   have b58 := eo st hE 6 (.int .i64 w11)
   have b59 := eo st hE 7 (.int .i64 (mxI (mxI w7 w9) (mxI w11 w19)))
   have b60 := eo st hE 8 acc46_0
   have b61 := eo st hE 5 (.int .i64 w7)
   have g62 : Grew Hi46 H48 := (gk st)
   have g63 : Grew H H48 := Grew.trans gt46 g62
   have r64 := g62.at r46_0
   have s65 := s46_0.grew g62
   clear st hE vs ls
   have q66 := q47.app (.cons ⟨_, rfl⟩ (.cons ⟨_, rfl⟩ (.cons ⟨_, rfl⟩ (.cons ⟨_, rfl⟩ .nil))) : KdsL [KI, KI, KI, KI] [.int .i64 w50, .int .i64 w52, .int .i64 w54, .int .i64 (floorX w50 w52)])
   refine run_mc (φ := φ0) (pm := pmX 1 [(.call 112 [nI 13, nI 14], nI 16)] 0) 20 (ws := [⟨p3, 0, [.nd 0 (.int .i16), .nd 1 (.int .i16)], false⟩]) (env := [(53, nI 13), (55, nI 14), (47, nI 15), (2, .ptr 0 0), (9, nI 11), (6, nI 6), (7, nI 10), (8, n1 12), (5, nI 4)]) q66 (.cons (wR r64 q66) .nil) (sepOk_ro rfl) (.cons (rule_call (args := [.int .i64 w50, .int .i64 w52]) (r := .int .i64 (floorX w50 w52)) (dL q66) (dE q66) (fun H9 hk => k_l07Floor H9 w50 w52 (by have hz := hw52; rw [wrap_i64 (by omega) (by omega)] at hz; omega))) .nil) (eC q66 (.cons b51 (.cons b53 (.cons b55 (.cons b56 (.cons b57 (.cons b58 (.cons b59 (.cons b60 (.cons b61 .nil)))))))))) tbX_ok ap_ok ?_
   refine all1 (by kernel_rfl) ?_
   intro vs ls H67 E67 st hE
   obtain ⟨w68, hw68⟩ : ∃ z, z = (IntKind.wrap .i64 ((IntKind.wrap .i64 ((IntKind.wrap .i64 (2 * (i46 : Int))) * w11)) + (mxI (mxI w7 w9) (mxI w11 w19)))) := ⟨_, rfl⟩
   have b69 : E67 66 = .int .i64 w68 := by rw [hw68]; exact eo st hE 66 _
   obtain ⟨w70, hw70⟩ : ∃ z, z = (IntKind.wrap .i64 (2 * (mxI (mxI w7 w9) (mxI w11 w19)))) := ⟨_, rfl⟩
   have b71 : E67 68 = .int .i64 w70 := by rw [hw70]; exact eo st hE 68 _
   obtain ⟨w72, hw72⟩ : ∃ z, z = (IntKind.wrap .i64 a1) := ⟨_, rfl⟩
   have b73 : E67 60 = .int .i64 w72 := by rw [hw72]; exact eo st hE 60 _
   have b74 := eo st hE 8 acc46_0
   obtain ⟨w75, hw75⟩ : ∃ z, z = (IntKind.wrap .i64 (w54 + (floorX w50 w52))) := ⟨_, rfl⟩
   have b76 : E67 10 = .int .i64 w75 := by rw [hw75]; exact eo st hE 10 _
   have b77 := eo st hE 9 (.int .i64 (i46 : Int))
   have b78 := eo st hE 7 (.int .i64 (mxI (mxI w7 w9) (mxI w11 w19)))
   have b79 := eo st hE 2 (.ptr p3 0)
   have b80 := eo st hE 5 (.int .i64 w7)
   have b81 := eo st hE 6 (.int .i64 w11)
   have g82 : Grew H48 H67 := (gk st)
   have g83 : Grew H H67 := Grew.trans g63 g82
   have r84 := g82.at r64
   have s85 := s65.grew g82
   clear st hE vs ls
   have q86 := q66.app (.cons ⟨_, rfl⟩ (.cons ⟨_, rfl⟩ (.cons ⟨_, rfl⟩ (.cons ⟨_, rfl⟩ (.cons ⟨_, rfl⟩ .nil)))) : KdsL [KI, KI, KI, KI, KI] [.int .i64 w68, .int .i64 w70, .int .i64 w72, .int .i64 w75, .int .i64 (floorX w68 w70)])
   refine run_mc (φ := φ0) (pm := pmX 1 [(.call 112 [nI 17, nI 18], nI 21)] 0) 20 (ws := [⟨p3, 0, [.nd 0 (.int .i16), .nd 1 (.int .i16)], false⟩]) (env := [(66, nI 17), (68, nI 18), (60, nI 19), (8, n1 12), (10, nI 20), (9, nI 11), (7, nI 10), (2, .ptr 0 0), (5, nI 4), (6, nI 6)]) q86 (.cons (wR r84 q86) .nil) (sepOk_ro rfl) (.cons (rule_call (args := [.int .i64 w68, .int .i64 w70]) (r := .int .i64 (floorX w68 w70)) (dL q86) (dE q86) (fun H9 hk => k_l07Floor H9 w68 w70 (by have hz := hw70; rw [wrap_i64 (by omega) (by omega)] at hz; omega))) .nil) (eC q86 (.cons b69 (.cons b71 (.cons b73 (.cons b74 (.cons b76 (.cons b77 (.cons b78 (.cons b79 (.cons b80 (.cons b81 .nil))))))))))) tbX_ok ap_ok ?_
   refine all1 (by kernel_rfl) ?_
   intro vs ls H87 E87 st hE
   obtain ⟨w88, hw88⟩ : ∃ z, z = (IntKind.wrap .i16 w75) := ⟨_, rfl⟩
   obtain ⟨w89, hw89⟩ : ∃ z, z = (IntKind.wrap .i16 (IntKind.wrap .i64 (w72 + (floorX w68 w70)))) := ⟨_, rfl⟩
   obtain ⟨p90, e91, r92, n93⟩ := sl_of st.inn hE 77 1 1 1 2 (by kernel_rfl) (ds := [.int .i16 (IntKind.wrap .i16 w75), .int .i16 (IntKind.wrap .i16 (IntKind.wrap .i64 (w72 + (floorX w68 w70))))]) (by kernel_rfl)
   rw [← hw89] at r92
   rw [← hw88] at r92
   have op90 : H.next ≤ p90 := Nat.le_trans g83.next (n93 (Nat.le_of_ble_eq_true rfl))
   have ne94 := apn r84 (n93 (Nat.le_of_ble_eq_true rfl))
   have ne95 : ApartL (acc46_0) p90 := s85.apart_new (n93 (Nat.le_of_ble_eq_true rfl))
   have b96 := eo st hE 71 acc46_0
   have b97 := eo st hE 9 (.int .i64 (i46 : Int))
   have b98 := eo st hE 7 (.int .i64 (mxI (mxI w7 w9) (mxI w11 w19)))
   have b99 := eo st hE 2 (.ptr p3 0)
   have b100 := eo st hE 5 (.int .i64 w7)
   have b101 := eo st hE 6 (.int .i64 w11)
   have b102 := eo st hE 8 acc46_0
   have g103 : Grew H67 H87 := (gk st)
   have g104 : Grew H H87 := Grew.trans g83 g103
   have r105 := g103.at r84
   have s106 := s85.grew g103
   clear st hE vs ls
   refine res_append (d := (some 78)) (sz := 2) (bytes := 4) (x := .tmp 71) (y := .tmp 77) (by kernel_rfl) (S := acc46_0) (ms := (lineT a0 a1 b0 b1 i46)) (ys := [[.int .i16 w88, .int .i16 w89]]) (by show E87 71 = _; exact b96) s106 (lineT_recs a0 a1 b0 b1 i46).len (by show srcCells _ _ (E87 77) = _; rw [e91]; exact src_one r92 rfl) (recs_one (ks := KS) (Recs.one (ks := KS) (.cons ⟨_, rfl⟩ (.cons ⟨_, rfl⟩ .nil))) rfl) (by show (2 * ((lineT a0 a1 b0 b1 i46).length + 1) + 192) * 4 ≤ 281474976710656; omega) ?_
   intro S107 H108 sS107 fS107 oS107
   have ne109 : ApartL (S107) p3 := fS107.apartL (H87.lt_of_get r105) (by assumption)
   have ne110 : ApartL (S107) p90 := fS107.apartL (H87.lt_of_get r92) (by assumption)
   have fr111 : FreshS H.next (S107) := fS107.fresh f46_0 g104.next
   have g112 : Grew H H108 := OnlyS.own g104 f46_0 oS107
   have r113 := oS107.at r105 (by assumption)
   have r114 := oS107.at r92 (by assumption)
   have q115 := q86.app (.cons ⟨_, rfl⟩ (.cons ⟨_, rfl⟩ (.cons sS107.one .nil)) : KdsL [.int .i16, .int .i16, .one] [.int .i16 w88, .int .i16 w89, S107])
   refine run_mc (φ := φ0) (pm := pmX 2 [] 0) 20 (ws := [⟨p3, 0, [.nd 0 (.int .i16), .nd 1 (.int .i16)], false⟩, ⟨p90, 0, [.nd 22 (.int .i16), .nd 23 (.int .i16)], false⟩]) (env := [(71, n1 12), (77, .sl 1 0 1 1 2), (9, nI 11), (7, nI 10), (2, .ptr 0 0), (5, nI 4), (6, nI 6), (8, n1 12), (78, n1 24)]) q115 (.cons (wR r113 q115) (.cons (wR r114 q115) .nil)) (sepOk_ro rfl) .nil (eC q115 (.cons (put_ne rfl b96) (.cons (put_ne rfl e91) (.cons (put_ne rfl b97) (.cons (put_ne rfl b98) (.cons (put_ne rfl b99) (.cons (put_ne rfl b100) (.cons (put_ne rfl b101) (.cons (put_ne rfl b102) (.cons put_same .nil)))))))))) tbX_ok ap_ok ?_
   refine all1 (by kernel_rfl) ?_
   intro vs ls H116 E116 st hE
   obtain ⟨w117, hw117⟩ : ∃ z, z = (IntKind.wrap .i64 ((i46 : Int) + 1)) := ⟨_, rfl⟩
   have b118 : E116 9 = .int .i64 w117 := by rw [hw117]; exact eo st hE 9 _
   have b119 := eo st hE 7 (.int .i64 (mxI (mxI w7 w9) (mxI w11 w19)))
   have b120 := eo st hE 2 (.ptr p3 0)
   have b121 := eo st hE 5 (.int .i64 w7)
   have b122 := eo st hE 6 (.int .i64 w11)
   have b123 := eo st hE 8 S107
   have g124 : Grew H108 H116 := (gk st)
   have g125 : Grew H H116 := Grew.trans g112 g124
   have r126 := g124.at r113
   have s128 := sS107.grew g124
   clear st hE vs ls
   have hz9 : z46 - 1 < z46 := by omega
   have hy9 : z46 - 1 + (i46 + 1) = ((nX a0 a1 b0 b1).toNat + 1) := by omega
   have hi9 : E116 9 = .int .i64 ((i46 + 1 : Nat) : Int) := by rw [b118, hw117, wrap64 (by omega)]
   have hs9 : lineT a0 a1 b0 b1 (i46 + 1) = ((lineT a0 a1 b0 b1 i46) ++ [[.int .i16 w88, .int .i16 w89]]) := by
    show lineT a0 a1 b0 b1 (i46) ++ [spotX a0 a1 b0 b1 ((i46 : Nat) : Int)] = _
    unfold spotX cdX
    simp only [hw88, hw89, hw50, hw52, hw68, hw70, hw75, hmx]
    try simp only [hw7, hw9, hw11, hw19, hw54, hw72, ea0, ea1]
    all_goals rfl
   exact res_norm (by kernel_rfl) ⟨z46 - 1, hz9, i46 + 1, S107, hy9, b119, b120, b121, b122, hi9, b123, g125, r126, (by rw [hs9]; exact s128), fr111, (by assumption)⟩
  ·
   intro vs ls H129 E129 st hE
   have f130 : (mxI (mxI w7 w9) (mxI w11 w19)) < (i46 : Int) := dt st 0
   have b131 := eo st hE 9 (.int .i64 (i46 : Int))
   have b132 := eo st hE 7 (.int .i64 (mxI (mxI w7 w9) (mxI w11 w19)))
   have b133 := eo st hE 40 (.int .i64 (i46 : Int))
   have b134 := eo st hE 41 (.int .i64 (mxI (mxI w7 w9) (mxI w11 w19)))
   obtain ⟨w135, hw135⟩ : ∃ z, z = (!(decide ((mxI (mxI w7 w9) (mxI w11 w19)) < (i46 : Int)))) := ⟨_, rfl⟩
   have b136 : E129 42 = .bool w135 := by rw [hw135]; exact eo st hE 42 _
   have b137 := eo st hE 2 (.ptr p3 0)
   have b138 := eo st hE 5 (.int .i64 w7)
   have b139 := eo st hE 6 (.int .i64 w11)
   have b140 := eo st hE 8 acc46_0
   have g141 : Grew Hi46 H129 := (gk st)
   have g142 : Grew H H129 := Grew.trans gt46 g141
   have r143 := g141.at r46_0
   have s144 := s46_0.grew g141
   clear st hE vs ls
   refine res_exit (id := 0) (by kernel_rfl) ?_
   have q145 := q47.app (.cons ⟨_, rfl⟩ .nil : KdsL [.bool] [.bool w135])
   refine run_mc (φ := φ0) (pm := pmX 1 [] 0) 20 (ws := [⟨p3, 0, [.nd 0 (.int .i16), .nd 1 (.int .i16)], false⟩]) (env := [(9, nI 11), (7, nI 10), (40, nI 11), (41, nI 10), (42, nB 13), (2, .ptr 0 0), (5, nI 4), (6, nI 6), (8, n1 12)]) q145 (.cons (wR r143 q145) .nil) (sepOk_ro rfl) .nil (eC q145 (.cons b131 (.cons b132 (.cons b133 (.cons b134 (.cons b136 (.cons b137 (.cons b138 (.cons b139 (.cons b140 .nil)))))))))) tbX_ok ap_ok ?_
   refine all1 (by kernel_rfl) ?_
   intro vs ls H146 E146 st hE
   have gz : Grew H H146 := (Grew.trans g142 (gk st))
   exact res_ex (by kernel_rfl) (end_same st.inn hE (.inr rfl) (a := acc46_0) (by kernel_rfl) gz.next ⟨gz, (by rw [show (nX a0 a1 b0 b1).toNat + 1 = i46 by omega]; exact ((s144.grew (st.inn.kept.grew (Nat.le_refl _)))).toW), f46_0⟩)
end Go.Proofs.Ytnleibiniajbnaa
