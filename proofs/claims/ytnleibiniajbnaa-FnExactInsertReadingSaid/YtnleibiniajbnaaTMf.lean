/- Contracts: feeds merged, by both. -/
import Derived.Test.YtnleibiniajbnaaTSrtE
import Derived.Test.YtnleibiniajbnaaTComp
import Derived.Test.YtnleibiniajbnaaTPutR
import Derived.Test.YtnleibiniajbnaaSxE
set_option linter.unusedVariables false
set_option linter.unusedSimpArgs false
namespace Go.Proofs.Ytnleibiniajbnaa
open Go.Ab
set_option maxRecDepth 100000
set_option maxHeartbeats 1000000
attribute [local irreducible] Res
open Classical in
noncomputable def mrgV (A B : List (List AV)) : List (List AV) × Int := if okFeed A = true ∧ okFeed B = true then (if 256 < (putN A B B.length).length then ([], 3) else ((putN A B B.length), 0)) else ([], 1)
open Classical in
noncomputable def insV (A : List (List AV)) (rt rx ry rz : Int) : List (List AV) × Int := if okFeed A = true then (if 0 ≤ rt ∧ rt ≤ 1000000000 then (if 256 < (putL A [.int .i64 rt, .int .i16 rx, .int .i16 ry, .int .i16 rz]).length then ([], 3) else (putL A [.int .i64 rt, .int .i16 rx, .int .i16 ry, .int .i16 rz], 0)) else ([], 2)) else ([], 1)
theorem putL_recs {L : List (List AV)} {m : List AV} (h : Recs KR L) (hm : KdsL KR m) : Recs KR (putL L m) := by
 unfold putL
 split
 ·
  intro x hx
  rw [List.mem_append, List.mem_cons] at hx
  rcases hx with hx | rfl | hx
  ·
   exact h x (List.mem_of_mem_take hx)
  ·
   exact hm
  ·
   exact h x (List.mem_of_mem_drop hx)
 ·
  exact h
theorem putN_recs {A B : List (List AV)} (h : Recs KR A) (k : Recs KR B) : ∀ i, i ≤ B.length → Recs KR (putN A B i)
 | 0, _ => h
 | i + 1, hi => putL_recs (putN_recs h k i om) (by rw [List.getD_eq_getElem?_getD, List.getElem?_eq_getElem (show i < B.length by omega)]; exact k.get (show i < B.length by omega))
theorem mrgV_recs {A B L : List (List AV)} {c : Int} (h : Recs KR A) (k : Recs KR B) (e : mrgV A B = (L, c)) : Recs KR L := by
 unfold mrgV at e
 split at e
 ·
  split at e
  ·
   injection e with e _; rw [← e]; exact .nil
  ·
   injection e with e _; rw [← e]; exact putN_recs h k _ (Nat.le_refl _)
 ·
  injection e with e _; rw [← e]; exact .nil
theorem insV_ok {A L : List (List AV)} {rt rx ry rz c : Int} (h : Recs KR A) (e : insV A rt rx ry rz = (L, c)) : Recs KR L ∧ L.length ≤ 256 := by
 unfold insV at e
 have h0 : Recs KR [] ∧ ([] : List (List AV)).length ≤ 256 := ⟨.nil, Nat.zero_le _⟩
 split at e
 ·
  split at e
  ·
   split at e
   ·
    injection e with e _; rw [← e]; exact h0
   ·
    rename_i hn; injection e with e _; rw [← e]; exact ⟨putL_recs h (.cons kA (.cons kA (.cons kA (.cons kA .nil)))), by omega⟩
  ·
   injection e with e _; rw [← e]; exact h0
 ·
  injection e with e _; rw [← e]; exact h0
theorem k_CloneR (H : AHeap) (ms : List (List AV)) (hr : Recs KR ms) (S : AV) (hS : SlL H 4 ms S) (mxms : ms.length ≤ 1048576) : ACalls Try.prog 85 [S] H fun r H' => Grew H H' ∧ SlF H' 4 ms r ∧ FreshS H.next r := by
 cases hS with
 | nil h0 =>
  refine res_start h_slices_Clone_impl_Reading_impl_Reading (by simp) ?_
  have q1 : KdsL [] [] := .nil
  refine rC 0 0 [] [(0, lN)] q1 (.cons (t := 0) rfl .nil) ?_
  refine all1 kr fun vs ls H2 E2 st hE => ?_
  have gz : Grew H H2 := (Grew.trans (Grew.refl _) (gk st))
  exact re st hE (.nilslice) gz.next ⟨gz, .nil h0, .nil⟩
 | @sl l n cap rest wr hg hn hc =>
  subst hn
  have hS : SlL H 4 ms (.slice l 0 ms.length cap 4) := .sl hg rfl hc
  refine res_start h_slices_Clone_impl_Reading_impl_Reading (by simp) ?_
  have q1 : KdsL [.one] [.slice l 0 ms.length cap 4] := .cons rfl .nil
  refine rD 0 0 [(.nilS (n1 0), .lit (.bool false))] [] [(0, n1 0)] q1 (.cons (⟨.slice l 0 ms.length cap 4, _, (dE q1), dLit rfl, fun E get => by simp [aval, Opd.ev]⟩) .nil) (.cons (t := 0) rfl .nil) ?_
  refine all1 kr fun vs ls H2 E2 st hE => ?_
  obtain ⟨p3, e4, r5, n6⟩ := sl_of st.inn hE 5 0 0 0 4 kr (ds := []) kr
  have op3 : H.next ≤ p3 := Nat.le_trans (Nat.le_refl _) (oM n6)
  have b7 := eo st hE 6 (.slice l 0 ms.length cap 4)
  have g8 : Grew H H2 := (gk st)
  have g9 : Grew H H2 := Grew.trans (Grew.refl _) g8
  have sx12 : SlF H2 4 [] (.slice p3 0 0 0 4) := .sl (by simpa using r5) rfl (Nat.le_refl _)
  refine res_append0 (d := (some 7)) (sz := 4) (bytes := 16) (x := .tmp 5) (y := .tmp 6) kr (S := .slice p3 0 0 0 4) (ys := ms) (by show E2 5 = _; exact e4) sx12 (.inr ⟨_, rfl⟩) (by show srcCells _ _ (E2 6) = _; rw [b7]; exact src_list hr.len (hS.grew g9)) (recs_one hr rfl) (by first | omega | (simp only [List.length_append, List.length_cons, List.length_nil, List.length_drop, List.length_take]; omega)) ?_
  intro S10 H11 sS10 fS10 oS10
  have fr13 : FreshS H.next (S10) := fS10.fresh (FreshS.of_le op3) g9.next
  have g14 := Grew.trans g9 oS10
  have q16 := q1.app (kL : KdsL [.one] [S10])
  refine rC 0 0 [] [(6, n1 0), (7, n1 1)] q16 (.cons (put_ne rfl b7) (.cons put_same .nil)) ?_
  refine all1 kr fun vs ls H17 E17 st hE => ?_
  have gz : Grew H H17 := (Grew.trans g14 (gk st))
  exact re st hE (S10) gz.next ⟨gz, (sS10.grew (st.inn.kept.grew (Nat.le_refl _))), fr13⟩
theorem k_impl_MergeFeeds (H : AHeap) (A : List (List AV)) (hrA : Recs KR A) (SA : AV) (hSA : SlL H 4 A SA) (mxA : A.length ≤ 1048576) (B : List (List AV)) (hrB : Recs KR B) (SB : AV) (hSB : SlL H 4 B SB) (mxB : B.length ≤ 1048576) : ACalls Try.prog 43 [SA, SB] H fun r H' => Grew H H' ∧ ∃ S', r = .tuple [S', .int .i64 (mrgV A B).2] ∧ SlW H' 4 (mrgV A B).1 S' ∧ FreshS H.next S' := by
 refine res_start h_impl_MergeFeeds (by simp) ?_
 have q1 : KdsL [.one, .one, .bool, .bool] [SA, SB, .bool (okFeed A), .bool (okFeed B)] := kL
 refine rD 0 0 [(.call 62 [n1 0], nB 2), (.call 62 [n1 1], nB 3)] [] [(0, n1 0), (1, n1 1)] q1 (.cons (rule_call (args := [SA]) (dL q1) (dE q1) (fun H9 hk => k_ValidFeed H9 A hrA SA (hSA.grew (Grew.trans (Grew.refl _) (hk.grew (Nat.le_refl _)))) (mx40 mxA))) (.cons (rule_call (args := [SB]) (dL q1) (dE q1) (fun H9 hk => k_ValidFeed H9 B hrB SB (hSB.grew (Grew.trans (Grew.refl _) (hk.grew (Nat.le_refl _)))) (mx40 mxB))) .nil)) (.cons (t := 0) rfl (.cons (t := 1) rfl .nil)) ?_
 refine all3 kr ?_ ?_ ?_
 ·
  intro vs ls H2 E2 st hE
  have f3 : (okFeed A) = false := bf st 0
  have gz : Grew H H2 := (Grew.trans (Grew.refl _) (gk st))
  have hv : mrgV A B = ([], 1) := by
   unfold mrgV
   rw [if_neg (fun h => by rw [f3] at h; cases h.1)]
  exact re st hE (.tuple [.nilslice, .int .i64 1]) gz.next (by rw [hv]; exact ⟨gz, _, rfl, .nil rfl, FreshS.nil⟩)
 ·
  intro vs ls H4 E4 st hE
  have f5 : (okFeed B) = false := bf st 0
  have f6 : (okFeed A) = true := bf st 1
  obtain ⟨haA, hbA⟩ := feed_asc f6
  have gz : Grew H H4 := (Grew.trans (Grew.refl _) (gk st))
  have hv : mrgV A B = ([], 1) := by
   unfold mrgV
   rw [if_neg (fun h => by rw [f5] at h; cases h.2)]
  exact re st hE (.tuple [.nilslice, .int .i64 1]) gz.next (by rw [hv]; exact ⟨gz, _, rfl, .nil rfl, FreshS.nil⟩)
 ·
  intro vs ls H7 E7 st hE
  have f8 : (okFeed B) = true := bf st 0
  obtain ⟨haB, hbB⟩ := feed_asc f8
  have f9 : (okFeed A) = true := bf st 1
  obtain ⟨haA, hbA⟩ := feed_asc f9
  have b10 := eo st hE 15 SA
  have B1 := es st hE [(15, SA), (1, SB)]
  have g12 : Grew H H7 := (gk st)
  have g13 : Grew H H7 := Grew.trans (Grew.refl _) g12
  refine res_call (d := (some 16)) (f := 85) (args := [.tmp 15]) kr (R := fun z H' => Grew H7 H' ∧ SlF H' 4 A z ∧ FreshS H7.next z) ?_ ?_
  ·
   show ACalls _ _ [E7 15] _ _
   rw [b10]
   exact k_CloneR H7 A hrA (SA) (hSA.grew g13) mxA
  rintro S14 H15 ⟨gS14, sS14, fS14⟩
  have fr16 : FreshS H.next (S14) := fS14.mono g13.next
  have g17 := Grew.trans g13 gS14
  have q18 := q1.app (kL : KdsL [.one] [S14])
  refine rC 0 0 [] [(15, n1 0), (1, n1 1), (16, n1 4)] q18 (sc (sp B1) (.cons put_same .nil)) ?_
  refine all1 kr fun vs ls H19 E19 st hE => ?_
  have b20 := eo st hE 16 S14
  have b21 := eo st hE 17 SB
  have B2 := es st hE [(16, S14), (17, SB)]
  have g22 : Grew H15 H19 := (gk st)
  have g23 := Grew.trans g17 g22
  have s24 := sS14.grew g22
  refine res_append (d := (some 18)) (sz := 4) (bytes := 16) (x := .tmp 16) (y := .tmp 17) kr (S := S14) (ms := A) (ys := B) (by show E19 16 = _; exact b20) s24 hrA.len (by show srcCells _ _ (E19 17) = _; rw [b21]; exact src_list hrB.len (hSB.grew g23)) (recs_one hrB rfl) (by first | omega | (simp only [List.length_append, List.length_cons, List.length_nil, List.length_drop, List.length_take]; omega)) ?_
  intro S25 H26 sS25 fS25 oS25
  have fr27 : FreshS H.next (S25) := fS25.fresh fr16 g23.next
  have g28 : Grew H H26 := OnlyS.own g23 fr16 oS25
  have q29 := q18.app (kL : KdsL [.one] [S25])
  refine rC 0 0 [] [(16, n1 4), (17, n1 1), (18, n1 5)] q29 (sc (sp B2) (.cons put_same .nil)) ?_
  refine all1 kr fun vs ls H30 E30 st hE => ?_
  have b31 := eo st hE 19 S25
  have B3 := es st hE [(19, S25), (6, S25)]
  have g33 : Grew H26 H30 := (gk st)
  have g34 := Grew.trans g28 g33
  have s35 := sS25.grew g33
  refine res_call (d := (some 20)) (f := 86) (args := [.tmp 19, .const (.func 87 [] [])]) kr (R := fun z H' => z = .tuple [] ∧ OnlyS S25 H30 H' ∧ ∃ M, SlF H' 4 M S25 ∧ Recs KR M ∧ St 0 (A ++ B).length (A ++ B) M ∧ Srt 0 (A ++ B).length M) ?_ ?_
  ·
   show ACalls _ _ [E30 19, .func 87 [] []] _ _
   rw [b31]
   exact k_SortStable H30 (A ++ B) (Recs.append hrA hrB) S25 s35 (by rw [List.length_append]; omega)
  rintro z H36 ⟨rfl, o36, M36, n36, hr36, hp36⟩
  have g37 : Grew H H36 := OnlyS.own g34 fr27 o36
  have hlM36 : M36.length = (A ++ B).length := hp36.1.len
  refine rC 0 0 [] [(19, n1 5), (6, n1 5), (20, .tup [])] q29 (sc (sp B3) (.cons put_same .nil)) ?_
  refine all1 kr fun vs ls H39 E39 st hE => ?_
  have b40 := eo st hE 21 S25
  have B4 := es st hE [(21, S25), (6, S25)]
  have g42 : Grew H36 H39 := (gk st)
  have g43 := Grew.trans g37 g42
  have s44 := n36.grew g42
  refine res_call (d := (some 22)) (f := 89) (args := [.tmp 21, .const (.func 90 [] [])]) kr (R := fun z H' => OnlyS S25 H39 H' ∧ SlW H' 4 (cmN M36 M36.length) z ∧ ∀ l, AtS z l → AtS S25 l) ?_ ?_
  ·
   show ACalls _ _ [E39 21, .func 90 [] []] _ _
   rw [b40]
   exact k_Compact H39 M36 hr36 S25 s44 (by rw [hlM36, List.length_append]; omega)
  rintro S46 H45 ⟨oH45, sS46, uS46⟩
  have fsS46 : FromS H39.next (S25) S46 := ⟨fun l' hl => .inr (uS46 l' hl)⟩
  have fr47 : FreshS H.next S46 := fsS46.fresh fr27 g43.next
  have g48 : Grew H H45 := OnlyS.own g43 fr27 oH45
  have hclS46 := cmN_len M36 M36.length
  have q49 := q29.app (kL : KdsL [.one, KI] [S46, .int .i64 ((cmN M36 M36.length).length : Int)])
  refine rD 0 0 [(.len (n1 6), nI 7)] [] [(21, n1 5), (6, n1 5), (22, n1 6)] q49 (.cons (⟨_, _, (dE q49), (dE q49), slLen (sS46.toL)⟩) .nil) (sc (sp B4) (.cons put_same .nil)) ?_
  refine all2 kr ?_ ?_
  ·
   intro vs ls H50 E50 st hE
   have f51 : 256 < ((cmN M36 M36.length).length : Int) := dt st 0
   have gz : Grew H H50 := (Grew.trans g48 (gk st))
   have hv : mrgV A B = ([], 3) := by
    unfold mrgV
    rw [if_pos ⟨f9, f8⟩]; rw [if_pos (by rw [← merge_law haA hp36.1 hp36.2]; omega)]
   exact re st hE (.tuple [.nilslice, .int .i64 3]) gz.next (by rw [hv]; exact ⟨gz, _, rfl, .nil rfl, FreshS.nil⟩)
  ·
   intro vs ls H52 E52 st hE
   have f53 : ¬ (256 < ((cmN M36 M36.length).length : Int)) := df st 0
   have gz : Grew H H52 := (Grew.trans g48 (gk st))
   have hml : cmN M36 M36.length = (putN A B B.length) := merge_law haA hp36.1 hp36.2
   have hv : mrgV A B = ((putN A B B.length), 0) := by
    unfold mrgV
    rw [if_pos ⟨f9, f8⟩]; rw [if_neg (by rw [← merge_law haA hp36.1 hp36.2]; omega)]
   exact re st hE (.tuple [S46, .int .i64 0]) gz.next (by rw [hv]; exact ⟨gz, _, rfl, (by rw [← hml]; exact (sS46.grew (st.inn.kept.grew (Nat.le_refl _)))), fr47⟩)
end Go.Proofs.Ytnleibiniajbnaa
