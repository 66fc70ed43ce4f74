/- Contracts: a reading put into a feed, by both. -/
import Derived.Test.YtnleibiniajbnaaTMf
import Derived.Test.YtnleibiniajbnaaSxE
set_option linter.unusedVariables false
set_option linter.unusedSimpArgs false
namespace Go.Proofs.Ytnleibiniajbnaa
open Go.Ab
set_option maxRecDepth 100000
set_option maxHeartbeats 1000000
attribute [local irreducible] Res
theorem feed_one (rt rx ry rz : Int) : okFeed [[.int .i64 rt, .int .i16 rx, .int .i16 ry, .int .i16 rz]] = decide (0 ≤ rt ∧ rt ≤ 1000000000) := by
 show (decide ((1 : Nat) ≤ 256) && ((decide ((0 ≤ rt ∧ rt ≤ 1000000000) ∧ ((0 : Nat) < 0 → _))) && true)) = _
 simp
theorem ins_mrg {A : List (List AV)} {rt rx ry rz : Int} (h : okFeed A = true) (ht : 0 ≤ rt ∧ rt ≤ 1000000000) : insV A rt rx ry rz = mrgV A [[.int .i64 rt, .int .i16 rx, .int .i16 ry, .int .i16 rz]] := by
 have hm : okFeed A = true ∧ okFeed [[.int .i64 rt, .int .i16 rx, .int .i16 ry, .int .i16 rz]] = true := ⟨h, by rw [feed_one]; exact decide_eq_true ht⟩
 unfold insV mrgV
 rw [if_pos h, if_pos ht, if_pos hm]
 rfl
theorem k_impl_InsertReading (H : AHeap) (A : List (List AV)) (hrA : Recs KR A) (SA : AV) (hSA : SlL H 4 A SA) (mxA : A.length ≤ 1048576) (rt rx ry rz : Int) : ACalls Try.prog 46 [SA, .agg [.int .i64 rt, .int .i16 rx, .int .i16 ry, .int .i16 rz]] H fun r H' => Grew H H' ∧ ∃ S', r = .tuple [S', .int .i64 (insV A rt rx ry rz).2] ∧ SlW H' 4 (insV A rt rx ry rz).1 S' ∧ FreshS H.next S' := by
 obtain ⟨L9, c9, hV9⟩ : ∃ L c, mrgV A [[.int .i64 rt, .int .i16 rx, .int .i16 ry, .int .i16 rz]] = (L, c) := ⟨_, _, rfl⟩
 have hL9 : Recs KR L9 := mrgV_recs hrA (Recs.one (.cons kA (.cons kA (.cons kA (.cons kA .nil))))) hV9
 refine res_start h_impl_InsertReading (by simp) ?_
 have q1 : KdsL [.one, KI, .int .i16, .int .i16, .int .i16, .bool] [SA, .int .i64 rt, .int .i16 rx, .int .i16 ry, .int .i16 rz, .bool (okFeed A)] := kL
 refine rD 0 0 [(.call 62 [n1 0], nB 5)] [] [(0, n1 0), (1, .agg [nI 1, .nd 2 (.int .i16), .nd 3 (.int .i16), .nd 4 (.int .i16)])] q1 (.cons (rule_call (args := [SA]) (dL q1) (dE q1) (fun H9 hk => k_ValidFeed H9 A hrA SA (hSA.grew (Grew.trans (Grew.refl _) (hk.grew (Nat.le_refl _)))) (mx40 mxA))) .nil) (.cons (t := 0) rfl (.cons (t := 1) rfl .nil)) ?_
 refine all4 kr ?_ ?_ ?_ ?_
 ·
  intro vs ls H2 E2 st hE
  have f3 : (okFeed A) = false := bf st 0
  have gz : Grew H H2 := (Grew.trans (Grew.refl _) (gk st))
  have hv : insV A rt rx ry rz = ([], 1) := by
   unfold insV
   rw [if_neg (by rw [f3]; decide)]
  exact re st hE (.tuple [.nilslice, .int .i64 1]) gz.next (by rw [hv]; exact ⟨gz, _, rfl, .nil rfl, FreshS.nil⟩)
 ·
  intro vs ls H4 E4 st hE
  have f5 : 1000000000 < rt := dt st 0
  have f6 : ¬ (rt < 0) := df st 1
  have f7 : (okFeed A) = true := bf st 2
  obtain ⟨haA, hbA⟩ := feed_asc f7
  have gz : Grew H H4 := (Grew.trans (Grew.refl _) (gk st))
  have hv : insV A rt rx ry rz = ([], 2) := by
   unfold insV
   rw [if_pos f7, if_neg om]
  exact re st hE (.tuple [.nilslice, .int .i64 2]) gz.next (by rw [hv]; exact ⟨gz, _, rfl, .nil rfl, FreshS.nil⟩)
 ·
  intro vs ls H8 E8 st hE
  have f9 : ¬ (1000000000 < rt) := df st 0
  have f10 : ¬ (rt < 0) := df st 1
  have f11 : (okFeed A) = true := bf st 2
  obtain ⟨haA, hbA⟩ := feed_asc f11
  obtain ⟨p12, e13, r14, n15⟩ := sl_of st.inn hE 17 1 1 1 4 kr (ds := [.int .i64 rt, .int .i16 rx, .int .i16 ry, .int .i16 rz]) kr
  have op12 : H.next ≤ p12 := Nat.le_trans (Nat.le_refl _) (oM n15)
  have b16 := eo st hE 15 SA
  have g17 : Grew H H8 := (gk st)
  have g18 : Grew H H8 := Grew.trans (Grew.refl _) g17
  refine res_call (d := (some 18)) (f := 43) (args := [.tmp 15, .tmp 17]) kr (R := fun z H' => Grew H8 H' ∧ ∃ S', z = .tuple [S', .int .i64 c9] ∧ SlW H' 4 L9 S' ∧ FreshS H8.next S') ?_ ?_
  ·
   show ACalls _ _ [E8 15, E8 17] _ _
   rw [b16, e13]
   exact (by have h9 := k_impl_MergeFeeds H8 A hrA SA (hSA.grew g18) mxA [[.int .i64 rt, .int .i16 rx, .int .i16 ry, .int .i16 rz]] (Recs.one (.cons kA (.cons kA (.cons kA (.cons kA .nil))))) (.slice p12 0 1 1 4) (.sl (rest := []) (by simpa using r14) rfl (Nat.le_refl _)) (show 1 ≤ 1048576 from by decide); rw [hV9] at h9; exact h9)
  rintro zz H20 ⟨gS19, S19, rfl, sS19, fS19⟩
  have ne21 : ApartL (S19) p12 := fS19.apartL (H8.lt_of_get r14)
  have fr22 : FreshS H.next (S19) := fS19.mono g18.next
  have g23 := Grew.trans g18 gS19
  have r24 := gS19.at r14
  have q25 := q1.app (kL : KdsL [.one, KI] [S19, .int .i64 c9])
  refine run_mc (φ := φ0) (pm := pmR 1 [] 0) 20 (ws := [wf p12 [nI 1, .nd 2 (.int .i16), .nd 3 (.int .i16), .nd 4 (.int .i16)]]) (env := [(15, n1 0), (17, .sl 0 0 1 1 4), (18, .tup [n1 6, nI 7])]) q25 (.cons (wR r24 q25) .nil) (sepOk_ro rfl) .nil (eC q25 (.cons (put_ne rfl b16) (.cons (put_ne rfl e13) (.cons put_same .nil)))) tb_ok ap_ok ?_
  refine all1 kr fun vs ls H26 E26 st hE => ?_
  have gz : Grew H H26 := (Grew.trans g23 (gk st))
  have hv : insV A rt rx ry rz = (L9, c9) := (ins_mrg f11 om).trans hV9
  exact re st hE (.tuple [S19, .int .i64 c9]) gz.next (by rw [hv]; exact ⟨gz, _, rfl, (sS19.grew (st.inn.kept.grew (Nat.le_refl _))), fr22⟩)
 ·
  intro vs ls H27 E27 st hE
  have f28 : rt < 0 := dt st 0
  have f29 : (okFeed A) = true := bf st 1
  obtain ⟨haA, hbA⟩ := feed_asc f29
  have gz : Grew H H27 := (Grew.trans (Grew.refl _) (gk st))
  have hv : insV A rt rx ry rz = ([], 2) := by
   unfold insV
   rw [if_pos f29, if_neg om]
  exact re st hE (.tuple [.nilslice, .int .i64 2]) gz.next (by rw [hv]; exact ⟨gz, _, rfl, .nil rfl, FreshS.nil⟩)
theorem k_spec_InsertReading (H : AHeap) (A : List (List AV)) (hrA : Recs KR A) (SA : AV) (hSA : SlL H 4 A SA) (mxA : A.length ≤ 1048576) (rt rx ry rz : Int) : ACalls Try.prog 44 [SA, .agg [.int .i64 rt, .int .i16 rx, .int .i16 ry, .int .i16 rz]] H fun r H' => Grew H H' ∧ ∃ S', r = .tuple [S', .int .i64 (insV A rt rx ry rz).2] ∧ SlW H' 4 (insV A rt rx ry rz).1 S' ∧ FreshS H.next S' := by
 refine res_start h_spec_InsertReading (by simp) ?_
 have q1 : KdsL [.one, KI, .int .i16, .int .i16, .int .i16, .bool] [SA, .int .i64 rt, .int .i16 rx, .int .i16 ry, .int .i16 rz, .bool (okFeed A)] := kL
 refine rD 0 0 [(.call 78 [n1 0], nB 5)] [] [(0, n1 0), (1, .agg [nI 1, .nd 2 (.int .i16), .nd 3 (.int .i16), .nd 4 (.int .i16)])] q1 (.cons (rule_call (args := [SA]) (dL q1) (dE q1) (fun H9 hk => k_l04Feed H9 A hrA SA (hSA.grew (Grew.trans (Grew.refl _) (hk.grew (Nat.le_refl _)))) (mx40 mxA))) .nil) (.cons (t := 0) rfl (.cons (t := 1) rfl .nil)) ?_
 refine all4 kr ?_ ?_ ?_ ?_
 ·
  intro vs ls H2 E2 st hE
  have f3 : (okFeed A) = false := bf st 0
  have gz : Grew H H2 := (Grew.trans (Grew.refl _) (gk st))
  have hv : insV A rt rx ry rz = ([], 1) := by
   unfold insV
   rw [if_neg (by rw [f3]; decide)]
  obtain ⟨pz, ez, rz, nz⟩ := sl_of st.inn hE 4 1 0 0 4 kr (ds := []) kr
  have oz : H.next ≤ pz := Nat.le_trans (Nat.le_refl _) (nz (Nat.le_of_ble_eq_true rfl))
  have e7 : E2 5 = .int .i64 1 := env_of st.inn hE 5 kr
  exact res_ex kr (end_tmps (.inr rfl) ez e7 gz.next (by rw [hv]; exact ⟨gz, _, rfl, .sl (by simpa using rz) rfl (Nat.le_refl _), .of_le oz⟩))
 ·
  intro vs ls H4 E4 st hE
  have f5 : 1000000000 < rt := dt st 0
  have f6 : ¬ (rt < 0) := df st 1
  have f7 : (okFeed A) = true := bf st 2
  obtain ⟨haA, hbA⟩ := feed_asc f7
  have gz : Grew H H4 := (Grew.trans (Grew.refl _) (gk st))
  have hv : insV A rt rx ry rz = ([], 2) := by
   unfold insV
   rw [if_pos f7, if_neg om]
  obtain ⟨pz, ez, rz, nz⟩ := sl_of st.inn hE 4 1 0 0 4 kr (ds := []) kr
  have oz : H.next ≤ pz := Nat.le_trans (Nat.le_refl _) (nz (Nat.le_of_ble_eq_true rfl))
  have e7 : E4 5 = .int .i64 2 := env_of st.inn hE 5 kr
  exact res_ex kr (end_tmps (.inr rfl) ez e7 gz.next (by rw [hv]; exact ⟨gz, _, rfl, .sl (by simpa using rz) rfl (Nat.le_refl _), .of_le oz⟩))
 ·
  intro vs ls H8 E8 st hE
  have f9 : ¬ (1000000000 < rt) := df st 0
  have f10 : ¬ (rt < 0) := df st 1
  have f11 : (okFeed A) = true := bf st 2
  obtain ⟨haA, hbA⟩ := feed_asc f11
  have b12 := eo st hE 16 SA
  have b13 := eo st hE 17 (.agg [.int .i64 rt, .int .i16 rx, .int .i16 ry, .int .i16 rz])
  have B1 := es st hE [(16, SA), (17, .agg [.int .i64 rt, .int .i16 rx, .int .i16 ry, .int .i16 rz])]
  have g14 : Grew H H8 := (gk st)
  have g15 : Grew H H8 := Grew.trans (Grew.refl _) g14
  refine res_call (d := (some 18)) (f := 84) (args := [.tmp 16, .tmp 17]) kr (R := fun z H' => Grew H8 H' ∧ SlF H' 4 (putL A [.int .i64 rt, .int .i16 rx, .int .i16 ry, .int .i16 rz]) z ∧ FreshS H8.next z) ?_ ?_
  ·
   show ACalls _ _ [E8 16, E8 17] _ _
   rw [b12, b13]
   exact k_l04Put H8 A hrA (SA) (hSA.grew g15) mxA haA rt rx ry rz
  rintro S16 H17 ⟨gS16, sS16, fS16⟩
  have fr18 : FreshS H.next (S16) := fS16.mono g15.next
  have g19 := Grew.trans g15 gS16
  have q20 := q1.app (kL : KdsL [.one, KI] [S16, .int .i64 ((putL A [.int .i64 rt, .int .i16 rx, .int .i16 ry, .int .i16 rz]).length : Int)])
  refine rD 0 0 [(.len (n1 6), nI 7)] [] [(16, n1 0), (17, .agg [nI 1, .nd 2 (.int .i16), .nd 3 (.int .i16), .nd 4 (.int .i16)]), (18, n1 6)] q20 (.cons (⟨_, _, (dE q20), (dE q20), slLen (sS16.toL)⟩) .nil) (sc (sp B1) (.cons put_same .nil)) ?_
  refine all2 kr ?_ ?_
  ·
   intro vs ls H21 E21 st hE
   have f22 : 256 < ((putL A [.int .i64 rt, .int .i16 rx, .int .i16 ry, .int .i16 rz]).length : Int) := dt st 0
   have gz : Grew H H21 := (Grew.trans g19 (gk st))
   have hv : insV A rt rx ry rz = ([], 3) := by
    unfold insV
    rw [if_pos f11, if_pos om]; rw [if_pos om]
   obtain ⟨pz, ez, rz, nz⟩ := sl_of st.inn hE 4 0 0 0 4 kr (ds := []) kr
   have oz : H.next ≤ pz := Nat.le_trans g19.next (nz (Nat.le_of_ble_eq_true rfl))
   have e7 : E21 5 = .int .i64 3 := env_of st.inn hE 5 kr
   exact res_ex kr (end_tmps (.inr rfl) ez e7 gz.next (by rw [hv]; exact ⟨gz, _, rfl, .sl (by simpa using rz) rfl (Nat.le_refl _), .of_le oz⟩))
  ·
   intro vs ls H23 E23 st hE
   have f24 : ¬ (256 < ((putL A [.int .i64 rt, .int .i16 rx, .int .i16 ry, .int .i16 rz]).length : Int)) := df st 0
   have hml : (putL A [.int .i64 rt, .int .i16 rx, .int .i16 ry, .int .i16 rz]) = putL A [.int .i64 rt, .int .i16 rx, .int .i16 ry, .int .i16 rz] := rfl
   have gz : Grew H H23 := (Grew.trans g19 (gk st))
   have hv : insV A rt rx ry rz = (putL A [.int .i64 rt, .int .i16 rx, .int .i16 ry, .int .i16 rz], 0) := by
    unfold insV
    rw [if_pos f11, if_pos om]; rw [if_neg om]
   exact re st hE (.tuple [S16, .int .i64 0]) gz.next (by rw [hv]; exact ⟨gz, _, rfl, (by rw [← hml]; exact (sS16.grew (st.inn.kept.grew (Nat.le_refl _))).toW), fr18⟩)
 ·
  intro vs ls H25 E25 st hE
  have f26 : rt < 0 := dt st 0
  have f27 : (okFeed A) = true := bf st 1
  obtain ⟨haA, hbA⟩ := feed_asc f27
  have gz : Grew H H25 := (Grew.trans (Grew.refl _) (gk st))
  have hv : insV A rt rx ry rz = ([], 2) := by
   unfold insV
   rw [if_pos f27, if_neg om]
  obtain ⟨pz, ez, rz, nz⟩ := sl_of st.inn hE 4 1 0 0 4 kr (ds := []) kr
  have oz : H.next ≤ pz := Nat.le_trans (Nat.le_refl _) (nz (Nat.le_of_ble_eq_true rfl))
  have e7 : E25 5 = .int .i64 2 := env_of st.inn hE 5 kr
  exact res_ex kr (end_tmps (.inr rfl) ez e7 gz.next (by rw [hv]; exact ⟨gz, _, rfl, .sl (by simpa using rz) rfl (Nat.le_refl _), .of_le oz⟩))
end Go.Proofs.Ytnleibiniajbnaa
