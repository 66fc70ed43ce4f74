/- Contracts: a landmark seen, by the reference. -/
import Derived.Test.YtacligocjfhckaaTObsB
import Derived.Test.YtacligocjfhckaaSxE
set_option linter.unusedVariables false
set_option linter.unusedSimpArgs false
namespace Go.Proofs.Ytacligocjfhckaa
open Go.Ab
set_option maxRecDepth 100000
set_option maxHeartbeats 1000000
attribute [local irreducible] Res
theorem qJW (ms : LL) (k : Nat) : ((ms.take k).drop 0 ++ (ms.take ms.length).drop (k + 1)) = ms.eraseIdx k := by
 rw [List.eraseIdx_eq_take_drop_succ]; simp
theorem qLm (u v : Int) (H : AHeap) : qQ Try.prog 67 [.int .i64 u, .int .i64 v] H (.int .i64 (min u v)) := by
 refine qH qAn (by simp) ?_
 have q1 : KdsL [KI, KI] [.int .i64 u, .int .i64 v] := kL
 refine rC 0 0 [] [(0, nI 0), (1, nI 1)] q1 (.cons (t := 0) rfl (.cons (t := 1) rfl .nil)) ?_
 refine bV kr ?_ ?_
 ·intro vs ls H2 E2 st hE
  have f3 : u < v := dt st 0
  refine rf st hE (.int .i64 u) (Grew.trans (Grew.refl _) (gk st)) ?_
  exact congrArg _ om
 ·intro vs ls H4 E4 st hE
  have f5 : ¬ (u < v) := df st 0
  refine rf st hE (.int .i64 v) (Grew.trans (Grew.refl _) (gk st)) ?_
  exact congrArg _ om
theorem qLl (u v : Int) (H : AHeap) : qQ Try.prog 68 [.int .i64 u, .int .i64 v] H (.int .i64 (max u v)) := by
 refine qH qAm (by simp) ?_
 have q1 : KdsL [KI, KI] [.int .i64 u, .int .i64 v] := kL
 refine rC 0 0 [] [(0, nI 0), (1, nI 1)] q1 (.cons (t := 0) rfl (.cons (t := 1) rfl .nil)) ?_
 refine bV kr ?_ ?_
 ·intro vs ls H2 E2 st hE
  have f3 : v < u := dt st 0
  refine rf st hE (.int .i64 u) (Grew.trans (Grew.refl _) (gk st)) ?_
  exact congrArg _ om
 ·intro vs ls H4 E4 st hE
  have f5 : ¬ (v < u) := df st 0
  refine rf st hE (.int .i64 v) (Grew.trans (Grew.refl _) (gk st)) ?_
  exact congrArg _ om
def tbM : List (Nat × AFun) := tb.filter fun p => !(p.1 == 67 || p.1 == 68)
theorem vI : qDa Try.prog tbM := fun f a h => qY f a (List.mem_filter.1 h).1
def pmM (fl : Nat) (ru : List (RK × SV)) (un : Nat) : Pm := ⟨fl, ru, tbM, ap, un⟩
theorem qLo (H : AHeap) (x : ON) (hx : fOk .f32 x) (ms : LL) (hr : xY KM ms) (S : AV) (hS : SlL H 9 ms S) (mxms : ms.length <= 1048576) (ho : OkMs ms) (a b c : ON) (ha : fOk .f32 a) (hb : fOk .f32 b) (hc : fOk .f32 c) (wt : ON) (hwt : fOk .f32 wt) (t : Int) (g : ON) (hg : fOk .f32 g) (lp : Nat) (hlp : H.get lp = some (.row [.flt .f32 x, S] true)) : qJ Try.prog 44 [.ptr lp 0, .agg [.flt .f32 a, .flt .f32 b, .flt .f32 c], .flt .f32 wt, .int .i64 t, .flt .f32 g] H fun r H' => Grew H H' /\ ∃ S' cl kn, r = .tuple [.agg [.flt .f32 (qKN x ms a b c wt t g), S'], .agg cl, .bool kn, .int .i64 (vW x ms a b c wt t g)] /\ SlF H' 9 (qFQ x ms a b c wt t g) S' /\ FreshS H.next S' /\ KdsL K3 cl /\ (vW x ms a b c wt t g = 0 -> cl = qGQ x ms a b c wt t g /\ kn = qHA x ms a b c wt t g) := by
 obtain ⟨i1, i2, hN⟩ : ∃ i1 i2, jA x ms a b c g = (i1, i2) := ⟨_, _, rfl⟩
 have hrng : -1 <= i1 /\ i1 < ms.length := by have h9 := qAz x ms a b c g; rw [hN] at h9; exact h9
 refine qH qAq (by simp) ?_
 have q1 : KdsL [KF, .one, KF, KF, KF, KF, KI, KF, KI, KI] [.flt .f32 x, S, .flt .f32 a, .flt .f32 b, .flt .f32 c, .flt .f32 wt, .int .i64 t, .flt .f32 g, .int .i64 i1, .int .i64 i2] := kL
 refine qL (φ := φ0) (pm := pmM 1 [] 4) 20 (ws := [wf lp [nF 0, n1 1]]) (env := [(0, .ptr 0 0), (1, .agg [nF 2, nF 3, nF 4]), (2, nF 5), (3, nI 6), (4, nF 7)]) q1 (.cons (wR hlp q1) .nil) (qK rfl) .nil (eC q1 (.cons (t := 0) rfl (.cons (t := 1) rfl (.cons (t := 2) rfl (.cons (t := 3) rfl (.cons (t := 4) rfl .nil)))))) vI qO ?_
 refine qNu kr ?_ ?_ ?_ ?_ ?_
 ·intro vs ls H2 E2 st hE
  have f3 : (qN .f32 (fop .sub .f32 wt wt) (some 0) == some .eq) = false := bf st 0
  have gz : Grew H H2 := (Grew.trans (Grew.refl _) (gk st))
  have hC : vW x ms a b c wt t g = 2 := by
   unfold vW; rw [if_neg (fun q9 => absurd q9.1 (by rw [(show zF wt = false from by unfold zF; rw [<- xF, f3]; rfl)]; decide))]
  obtain ⟨_, eX, eP2, eK2, eL2⟩ := vC hC (by decide)
  exact re st hE (.tuple [.agg [.flt .f32 (some 0), .nilslice], .agg [.int .i32 0, .int .i32 0, .int .i32 0], .bool false, .int .i64 2]) gz.next (by rw [hC, eX, eL2]; exact ⟨gz, _, _, _, rfl, (.nil rfl), FreshS.nil, (.cons kA (.cons kA (.cons kA .nil))), fun h9 => absurd h9 (by decide)⟩)
 ·intro vs ls H4 E4 st hE
  have f5 : (qN .f32 (some 0) wt == some .lt) = false := bf st 0
  have f6 : (qN .f32 (fop .sub .f32 wt wt) (some 0) == some .eq) = true := bf st 1
  have gz : Grew H H4 := (Grew.trans (Grew.refl _) (gk st))
  have hC : vW x ms a b c wt t g = 2 := by
   unfold vW; rw [if_neg (fun q9 => absurd q9.1 (by rw [(show zF wt = false from by unfold zF; rw [f5, Bool.and_false])]; decide))]
  obtain ⟨_, eX, eP2, eK2, eL2⟩ := vC hC (by decide)
  exact re st hE (.tuple [.agg [.flt .f32 (some 0), .nilslice], .agg [.int .i32 0, .int .i32 0, .int .i32 0], .bool false, .int .i64 2]) gz.next (by rw [hC, eX, eL2]; exact ⟨gz, _, _, _, rfl, (.nil rfl), FreshS.nil, (.cons kA (.cons kA (.cons kA .nil))), fun h9 => absurd h9 (by decide)⟩)
 ·intro vs ls H7 E7 st hE
  have f8 : 1000000000 < t := dt st 0
  have f9 : ¬ (t < 0) := df st 1
  have f10 : (qN .f32 (some 0) wt == some .lt) = true := bf st 2
  have f11 : (qN .f32 (fop .sub .f32 wt wt) (some 0) == some .eq) = true := bf st 3
  have gz : Grew H H7 := (Grew.trans (Grew.refl _) (gk st))
  have hC : vW x ms a b c wt t g = 2 := by
   unfold vW; rw [if_neg (fun q9 => by have := q9.2; omega)]
  obtain ⟨_, eX, eP2, eK2, eL2⟩ := vC hC (by decide)
  exact re st hE (.tuple [.agg [.flt .f32 (some 0), .nilslice], .agg [.int .i32 0, .int .i32 0, .int .i32 0], .bool false, .int .i64 2]) gz.next (by rw [hC, eX, eL2]; exact ⟨gz, _, _, _, rfl, (.nil rfl), FreshS.nil, (.cons kA (.cons kA (.cons kA .nil))), fun h9 => absurd h9 (by decide)⟩)
 ·intro vs ls H12 E12 st hE
  have f13 : ¬ (1000000000 < t) := df st 0
  have f14 : ¬ (t < 0) := df st 1
  have f15 : (qN .f32 (some 0) wt == some .lt) = true := bf st 2
  have f16 : (qN .f32 (fop .sub .f32 wt wt) (some 0) == some .eq) = true := bf st 3
  obtain ⟨p17, e18, r19, n20⟩ := pO st hE 10 2 [.flt .f32 (some 0), .nilslice]
  have op17 : H.next <= p17 := Nat.le_trans (Nat.le_refl _) (oM n20)
  obtain ⟨p21, e22, r23, n24⟩ := pO st hE 11 3 [.int .i32 0, .int .i32 0, .int .i32 0]
  have op21 : H.next <= p21 := Nat.le_trans (Nat.le_refl _) (oM n24)
  obtain ⟨p25, e26, r27, n28⟩ := pO st hE 6 1 [.flt .f32 a, .flt .f32 b, .flt .f32 c]
  have op25 : H.next <= p25 := Nat.le_trans (Nat.le_refl _) (oM n28)
  have ne29 := pn st hE 10 2 11 3 [lF, lN] e18 e22
  have ne30 := pn st hE 10 2 6 1 [lF, lN] e18 e26
  have ne31 := pn st hE 11 3 6 1 [l0, l0, l0] e22 e26
  have ne32 := apn hlp (oM n20)
  have ne33 := apn hlp (oM n24)
  have ne34 := apn hlp (oM n28)
  have b35 := eo st hE 41 (.ptr lp 0)
  have b36 := eo st hE 42 (.agg [.flt .f32 a, .flt .f32 b, .flt .f32 c])
  have b37 := eo st hE 43 (.flt .f32 g)
  have B1 := es st hE [(41, .ptr lp 0), (42, .agg [.flt .f32 a, .flt .f32 b, .flt .f32 c]), (43, .flt .f32 g), (2, .flt .f32 wt), (3, .int .i64 t), (0, .ptr lp 0)]
  have g41 : Grew H H12 := (gk st)
  have g42 : Grew H H12 := Grew.trans (Grew.refl _) g41
  have r43 := g41.at hlp
  refine jD (d := (some 44)) (f := 66) (args := [.tmp 41, .tmp 42, .tmp 43]) kr (R := fun z H' => z = .tuple [.int .i64 i1, .int .i64 i2] /\ H' = H12) ?_ ?_
  ·show qJ _ _ [E12 41, E12 42, E12 43] _ _
   rw [b35, b36, b37]
   exact (by have h9 := qFu H12 x hx ms hr S (hS.grew g42) mxms a b c ha hb hc g hg lp r43; rw [hN] at h9; exact h9)
  rintro z H12 ⟨rfl, rfl⟩
  refine qL (φ := φ0) (pm := pmM 2 [] 4) 20 (ws := [wf lp [nF 0, n1 1], wf p25 [nF 2, nF 3, nF 4], ⟨p17, 0, [lF, lN], true⟩, ⟨p21, 0, [l0, l0, l0], true⟩]) (env := [(41, .ptr 0 0), (42, .agg [nF 2, nF 3, nF 4]), (43, nF 7), (2, nF 5), (3, nI 6), (0, .ptr 0 0), (10, .ptr 2 0), (11, .ptr 3 0), (6, .ptr 1 0), (44, .tup [nI 8, nI 9])]) q1 wA sd .nil (eC q1 (sc (sp B1) (.cons (qC rfl e18) (.cons (qC rfl e22) (.cons (qC rfl e26) (.cons qB .nil)))))) vI qO ?_
  refine bV kr ?_ ?_
  ·intro vs ls H45 E45 st hE
   have f46 : ¬ (i2 = 0) := df st 0
   have gz : Grew H H45 := (qI g42 (st.inn.kept) ⟨op17, ⟨op21, trivial⟩⟩)
   have hC : vW x ms a b c wt t g = i2 := by
    unfold vW; rw [if_pos ⟨(show zF wt = true from by unfold zF; rw [<- xF, f16, f15]; rfl), by omega, by omega⟩]
    rw [hN]
    exact if_neg f46
   obtain ⟨_, eX, eP2, eK2, eL2⟩ := vC hC f46
   exact re st hE (.tuple [.agg [.flt .f32 (some 0), .nilslice], .agg [.int .i32 0, .int .i32 0, .int .i32 0], .bool false, .int .i64 i2]) gz.next (by rw [hC, eX, eL2]; exact ⟨gz, _, _, _, rfl, (.nil rfl), FreshS.nil, (.cons kA (.cons kA (.cons kA .nil))), fun h9 => absurd h9 f46⟩)
  ·intro vs ls H47 E47 st hE
   have f48 : i2 = 0 := dt st 0
   obtain ⟨p49, e50, r51, n52⟩ := qFT st.inn hE 56 5 0 0 9 kr (ds := []) kr
   have op49 : H.next <= p49 := Nat.le_trans g42.next (oM n52)
   obtain ⟨p53, e54, r55, n56⟩ := pO st hE 16 4 [.int .i32 0, .int .i32 0, .int .i32 0, .flt .f32 a, .flt .f32 b, .flt .f32 c, .flt .f32 wt, .int .i64 1, .int .i64 t]
   have op53 : H.next <= p53 := Nat.le_trans g42.next (oM n56)
   have ne57 : Apart p49 p53 := ⟨qMh st.inn hE 56 16 5 4 (v := .sl 5 0 0 0 9) (v' := .ptr 4 0) kr kr rfl rfl (cs := []) kr (by decide) e50 e54 rfl rfl⟩
   have ne58 := apn r43 (oM n52)
   have ne59 := apn r27 (oM n52)
   have ne60 := apn r19 (oM n52)
   have ne61 := apn r23 (oM n52)
   have ne62 := apn r43 (oM n56)
   have ne63 := apn r27 (oM n56)
   have ne64 := apn r19 (oM n56)
   have ne65 := apn r23 (oM n56)
   have b66 := eo st hE 60 S
   have B2 := es st hE [(60, S), (14, .int .i64 i1), (0, .ptr lp 0), (2, .flt .f32 wt), (6, .ptr p25 0), (3, .int .i64 t), (10, .ptr p17 0), (11, .ptr p21 0)]
   have g74 : Grew H12 H47 := (gk st)
   have g75 := Grew.trans g42 g74
   have r76 := g74.at r43
   have r77 := g74.at r27
   have r78 := g74.at r19
   have r79 := g74.at r23
   have sx82 : SlF H47 9 [] (.slice p49 0 0 0 9) := .sl (by simpa using r51) rfl (Nat.le_refl _)
   refine hY (d := (some 61)) (sz := 9) (bytes := 48) (x := .tmp 56) (y := .tmp 60) kr (S := .slice p49 0 0 0 9) (ys := ms) (by show E47 56 = _; exact e50) sx82 (.inr ⟨_, rfl⟩) (by show qP _ _ (E47 60) = _; rw [b66]; exact qHG hr.len (hS.grew g75)) (vE hr rfl) (by first | omega | (simp only [List.length_append, List.length_cons, List.length_nil, List.length_drop, List.length_take]; omega)) ?_
   intro S80 H81 sS80 fS80 oS80
   have ne83 := aL fS80 r76 (ApartL.of aS)
   have ne84 := aL fS80 r77 (ApartL.of aS)
   have ne85 := aL fS80 r55 (ApartL.of aS)
   have ne86 := aL fS80 r78 (ApartL.of aS)
   have ne87 := aL fS80 r79 (ApartL.of aS)
   have fr88 : FreshS H.next (S80) := fS80.fresh (FreshS.of_le op49) g75.next
   have g89 := Grew.trans g75 oS80
   have r90 := oS80.at r76
   have r91 := oS80.at r77
   have r93 := oS80.at r55
   have r94 := oS80.at r78
   have r95 := oS80.at r79
   refine gP 0 kr ?_
   have q96 := q1.app (kL : KdsL [.one] [S80])
   refine qL (φ := φ0) (pm := pmM 3 [] 4) 20 (ws := [wf lp [nF 0, n1 1], wf p25 [nF 2, nF 3, nF 4], wf p53 [l0, l0, l0, nF 2, nF 3, nF 4, nF 5, .lit (.int .i64 1), nI 6], ⟨p17, 0, [lF, lN], true⟩, ⟨p21, 0, [l0, l0, l0], true⟩]) (env := [(60, n1 1), (14, nI 8), (0, .ptr 0 0), (2, nF 5), (6, .ptr 1 0), (3, nI 6), (10, .ptr 3 0), (11, .ptr 4 0), (16, .ptr 2 0), (61, n1 10)]) q96 wA sd .nil (eC q96 (sc (sp B2) (.cons (qC rfl e54) (.cons qB .nil)))) vI qO ?_
   refine zE kr fun vs ls H97 E97 st hE => ?_
   have B3 := es st hE [(14, .int .i64 i1), (0, .ptr lp 0), (2, .flt .f32 wt), (6, .ptr p25 0), (16, .ptr p53 0), (3, .int .i64 t), (10, .ptr p17 0), (11, .ptr p21 0), (17, S80)]
   have g107 : Grew H81 H97 := (gk st)
   have g108 := Grew.trans g89 g107
   have r109 := g107.at r90
   have r110 := g107.at r91
   have r111 := g107.at r93
   have r112 := g107.at r94
   have r113 := g107.at r95
   have s114 := sS80.grew g107
   refine qFM kr ?_
   refine qAH 2 (fun E H' => ∃ (np115 : ON) (nq115 : ON) (nr115 : ON) (nw115 : ON) (ns115 : Int) (nl115 : Int) (sa115 : AV), E 14 = .int .i64 i1 /\ E 0 = .ptr lp 0 /\ E 16 = .ptr p53 0 /\ E 10 = .ptr p17 0 /\ E 11 = .ptr p21 0 /\ E 17 = sa115 /\ Grew H H' /\ H'.get lp = some (.row [.flt .f32 x, S] true) /\ H'.get p53 = some (.row [.int .i32 0, .int .i32 0, .int .i32 0, .flt .f32 np115, .flt .f32 nq115, .flt .f32 nr115, .flt .f32 nw115, .int .i64 ns115, .int .i64 nl115] true) /\ H'.get p17 = some (.row [.flt .f32 (some 0), .nilslice] true) /\ H'.get p21 = some (.row [.int .i32 0, .int .i32 0, .int .i32 0] true) /\ SlF H' 9 (wY x ms a b c g) sa115 /\ FreshS H.next sa115 /\ ApartL sa115 lp /\ ApartL sa115 p53 /\ ApartL sa115 p17 /\ ApartL sa115 p21 /\ qBP x ms a b c wt t g = [.flt .f32 np115, .flt .f32 nq115, .flt .f32 nr115, .flt .f32 nw115, .int .i64 ns115, .int .i64 nl115] /\ fOk .f32 np115 /\ fOk .f32 nq115 /\ fOk .f32 nr115 /\ fOk .f32 nw115) kr ?_ ?_
   ·refine qL (φ := φ0) (pm := pmM 3 [] 4) 20 (ws := [wf lp [nF 0, n1 1], wf p25 [nF 2, nF 3, nF 4], wf p53 [l0, l0, l0, nF 2, nF 3, nF 4, nF 5, .lit (.int .i64 1), nI 6], ⟨p17, 0, [lF, lN], true⟩, ⟨p21, 0, [l0, l0, l0], true⟩]) (env := [(14, nI 8), (0, .ptr 0 0), (2, nF 5), (6, .ptr 1 0), (16, .ptr 2 0), (3, nI 6), (10, .ptr 3 0), (11, .ptr 4 0), (17, n1 10)]) q96 wA sd .nil (eC q96 B3) vI qO ?_
    refine bV kr ?_ ?_
    ·intro vs ls H117 E117 st hE
     have f118 : ¬ (i1 < 0) := df st 0
     have B4 := es st hE [(67, S), (68, .int .i64 i1), (0, .ptr lp 0), (14, .int .i64 i1), (2, .flt .f32 wt), (6, .ptr p25 0), (16, .ptr p53 0), (3, .int .i64 t), (10, .ptr p17 0), (11, .ptr p21 0), (17, S80)]
     have g130 : Grew H97 H117 := (gk st)
     have g131 := Grew.trans g108 g130
     have r132 := g130.at r109
     have r133 := g130.at r110
     have r134 := g130.at r111
     have r135 := g130.at r112
     have r136 := g130.at r113
     have s137 := s114.grew g130
     obtain ⟨k138, rfl⟩ : ∃ k : Nat, i1 = (k : Int) := ⟨Int.toNat i1, by omega⟩
     have hlt139 : k138 < ms.length := by omega
     obtain ⟨lS139, cap139, rest139, wr139, eS139, gB139⟩ := hS.isSl hlt139
     have gS139 := g131.at gB139
     have ne140 := apn gB139 op25
     have ne141 := apn gB139 op53
     have ne142 := apn gB139 op17
     have ne143 := apn gB139 op21
     obtain ⟨v139_0, v139_1, v139_2, v139_3, v139_4, v139_5, v139_6, v139_7, v139_8, hm139, ho139_3, ho139_4, ho139_5, ho139_6⟩ := zS (hr.get hlt139)
     have he139 : ms.getD k138 [] = [.int .i32 v139_0, .int .i32 v139_1, .int .i32 v139_2, .flt .f32 v139_3, .flt .f32 v139_4, .flt .f32 v139_5, .flt .f32 v139_6, .int .i64 v139_7, .int .i64 v139_8] := by rw [<- hm139, List.getD_eq_getElem?_getD, List.getElem?_eq_getElem hlt139]; rfl
     have q144 : KdsL [KF, .one, KF, KF, KF, KF, KI, KF, KI, KI, .one, K2, K2, K2, KF, KF, KF, KF, KI, KI] [.flt .f32 x, S, .flt .f32 a, .flt .f32 b, .flt .f32 c, .flt .f32 wt, .int .i64 t, .flt .f32 g, .int .i64 (k138 : Int), .int .i64 i2, S80, .int .i32 v139_0, .int .i32 v139_1, .int .i32 v139_2, .flt .f32 v139_3, .flt .f32 v139_4, .flt .f32 v139_5, .flt .f32 v139_6, .int .i64 v139_7, .int .i64 v139_8] := kL
     refine qL (φ := φ0) (pm := pmM 4 [(.ia 9 (n1 1) (nI 8), .ptr 3 0)] 4) 20 (ws := [wf lp [nF 0, n1 1], wf p25 [nF 2, nF 3, nF 4], wf p53 [l0, l0, l0, nF 2, nF 3, nF 4, nF 5, .lit (.int .i64 1), nI 6], ⟨lS139, (k138 * 9), [n2 11, n2 12, n2 13, nF 14, nF 15, nF 16, nF 17, nI 18, nI 19], false⟩, ⟨p17, 0, [lF, lN], true⟩, ⟨p21, 0, [l0, l0, l0], true⟩]) (env := [(67, n1 1), (68, nI 8), (0, .ptr 0 0), (14, nI 8), (2, nF 5), (6, .ptr 1 0), (16, .ptr 2 0), (3, nI 6), (10, .ptr 4 0), (11, .ptr 5 0), (17, n1 10)]) q144 (.cons (wR r132 q144) (.cons (wR r133 q144) (.cons (wR r134 q144) (.cons (jE hr gS139 hlt139 rfl (by rw [hm139]; exact (dL q144))) wA)))) sd (.cons (mC (k := k138) (dE q144) eS139 (dE q144) hlt139 rfl) .nil) (eC q144 B4) vI qO ?_
     refine zE kr fun vs ls H145 E145 st hE => ?_
     obtain ⟨p146, e147, r148, n149⟩ := pO st hE 18 6 [.int .i32 v139_0, .int .i32 v139_1, .int .i32 v139_2, .flt .f32 v139_3, .flt .f32 v139_4, .flt .f32 v139_5, .flt .f32 v139_6, .int .i64 v139_7, .int .i64 v139_8]
     have op146 : H.next <= p146 := Nat.le_trans g131.next (oM n149)
     have ne150 := apn r132 (oM n149)
     have ne151 := apn r133 (oM n149)
     have ne152 := apn r134 (oM n149)
     have ne153 := apn gS139 (oM n149)
     have ne154 := apn r135 (oM n149)
     have ne155 := apn r136 (oM n149)
     have ne156 : ApartL (S80) p146 := s137.apart_new (oM n149)
     have b157 := eo st hE 75 S
     have b158 := eo st hE 76 (.int .i64 (k138 : Int))
     have B5 := es st hE [(75, S), (76, .int .i64 (k138 : Int)), (0, .ptr lp 0), (14, .int .i64 (k138 : Int)), (2, .flt .f32 wt), (6, .ptr p25 0), (16, .ptr p53 0), (3, .int .i64 t), (10, .ptr p17 0), (11, .ptr p21 0), (17, S80)]
     have g168 : Grew H117 H145 := (gk st)
     have g169 := Grew.trans g131 g168
     have r170 := g168.at r132
     have r171 := g168.at r133
     have r172 := g168.at r134
     have r174 := g168.at r135
     have r175 := g168.at r136
     have s176 := s137.grew g168
     obtain ⟨V177, hV177, sV177⟩ := tZ hr.len hS 0 k138 om om
     have lV177 : ((ms.take k138).drop 0).length <= ms.length := by rw [List.length_drop, List.length_take]; omega
     refine qBF (d := some 77) (op := .slSl 9 (.tmp 75) none (some (.tmp 76)) none) (r := V177) kr rfl (sV177 _ _ 75 none (some (.tmp 76)) b157 (.inl ⟨rfl, rfl⟩) (.inr (congrArg some b158))) ?_
     have q178 := q144.app (.cons hV177.one .nil : KdsL [.one] [V177])
     refine qL (φ := φ0) (pm := pmM 4 [] 4) 20 (ws := [wf lp [nF 0, n1 1], wf p25 [nF 2, nF 3, nF 4], wf p53 [l0, l0, l0, nF 2, nF 3, nF 4, nF 5, .lit (.int .i64 1), nI 6], wf p146 [n2 11, n2 12, n2 13, nF 14, nF 15, nF 16, nF 17, nI 18, nI 19], ⟨p17, 0, [lF, lN], true⟩, ⟨p21, 0, [l0, l0, l0], true⟩]) (env := [(75, n1 1), (76, nI 8), (0, .ptr 0 0), (14, nI 8), (2, nF 5), (6, .ptr 1 0), (16, .ptr 2 0), (3, nI 6), (10, .ptr 4 0), (11, .ptr 5 0), (17, n1 10), (18, .ptr 3 0), (77, n1 20)]) q178 wA sd .nil (eC q178 (sc (sp B5) (.cons (qC rfl e147) (.cons qB .nil)))) vI qO ?_
     refine zE kr fun vs ls H179 E179 st hE => ?_
     have b180 := eo st hE 82 S
     obtain ⟨w181, hw181⟩ : ∃ z, z = (IntKind.wrap .i64 ((k138 : Int) + 1)) := ⟨_, rfl⟩
     have b182 : E179 84 = .int .i64 w181 := by rw [hw181]; exact eo st hE 84 _
     have B6 := es st hE [(82, S), (77, V177), (18, .ptr p146 0), (2, .flt .f32 wt), (6, .ptr p25 0), (16, .ptr p53 0), (3, .int .i64 t), (0, .ptr lp 0), (10, .ptr p17 0), (11, .ptr p21 0), (17, S80), (14, .int .i64 (k138 : Int))]
     have g194 : Grew H145 H179 := (gk st)
     have g195 := Grew.trans g169 g194
     have r196 := g194.at r170
     have r197 := g194.at r171
     have r198 := g194.at r172
     have r199 := g194.at r148
     have r200 := g194.at r174
     have r201 := g194.at r175
     have s202 := s176.grew g194
     have e203 : E179 84 = .int .i64 (((k138 + 1) : Nat) : Int) := by rw [b182, hw181]; exact congrArg _ (wrap64 om)
     obtain ⟨V204, hV204, sV204⟩ := tZ hr.len hS (k138 + 1) ms.length om om
     have lV204 : ((ms.take ms.length).drop (k138 + 1)).length <= ms.length := by rw [List.length_drop, List.length_take]; omega
     refine qBF (d := some 85) (op := .slSl 9 (.tmp 82) (some (.tmp 84)) none none) (r := V204) kr rfl (sV204 _ _ 82 (some (.tmp 84)) none b180 (.inr (congrArg some e203)) (.inl ⟨rfl, rfl⟩)) ?_
     have q205 := q178.app (.cons kA (.cons hV204.one .nil) : KdsL [KI, .one] [.int .i64 w181, V204])
     refine qL (φ := φ0) (pm := pmM 4 [] 4) 20 (ws := [wf lp [nF 0, n1 1], wf p25 [nF 2, nF 3, nF 4], wf p53 [l0, l0, l0, nF 2, nF 3, nF 4, nF 5, .lit (.int .i64 1), nI 6], wf p146 [n2 11, n2 12, n2 13, nF 14, nF 15, nF 16, nF 17, nI 18, nI 19], ⟨p17, 0, [lF, lN], true⟩, ⟨p21, 0, [l0, l0, l0], true⟩]) (env := [(82, n1 1), (77, n1 20), (18, .ptr 3 0), (2, nF 5), (6, .ptr 1 0), (16, .ptr 2 0), (3, nI 6), (0, .ptr 0 0), (10, .ptr 4 0), (11, .ptr 5 0), (17, n1 10), (14, nI 8), (84, nI 21), (85, n1 22)]) q205 wA sd .nil (eC q205 (sc (sp B6) (.cons (qC rfl b182) (.cons qB .nil)))) vI qO ?_
     refine zE kr fun vs ls H206 E206 st hE => ?_
     obtain ⟨p207, e208, r209, n210⟩ := qFT st.inn hE 71 6 0 0 9 kr (ds := []) kr
     have op207 : H.next <= p207 := Nat.le_trans g195.next (oM n210)
     have ne211 := apn r196 (oM n210)
     have ne212 := apn r197 (oM n210)
     have ne213 := apn r198 (oM n210)
     have ne214 := apn r199 (oM n210)
     have ne215 := apn r200 (oM n210)
     have ne216 := apn r201 (oM n210)
     have ne217 : ApartL (S80) p207 := s202.apart_new (oM n210)
     have b218 := eo st hE 77 V177
     have B7 := es st hE [(77, V177), (85, V204), (18, .ptr p146 0), (2, .flt .f32 wt), (6, .ptr p25 0), (16, .ptr p53 0), (3, .int .i64 t), (0, .ptr lp 0), (10, .ptr p17 0), (11, .ptr p21 0), (17, S80), (14, .int .i64 (k138 : Int))]
     have g230 : Grew H179 H206 := (gk st)
     have g231 := Grew.trans g195 g230
     have r232 := g230.at r196
     have r233 := g230.at r197
     have r234 := g230.at r198
     have r235 := g230.at r199
     have r236 := g230.at r200
     have r237 := g230.at r201
     have s238 := s202.grew g230
     have sx241 : SlF H206 9 [] (.slice p207 0 0 0 9) := .sl (by simpa using r209) rfl (Nat.le_refl _)
     refine qFK (free := false) (d := (some 78)) (sz := 9) (bytes := 48) (x := .tmp 71) (y := .tmp 77) kr (S := .slice p207 0 0 0 9) (ys := ((ms.take k138).drop 0)) (by show E206 71 = _; exact e208) sx241 (.inr ⟨_, rfl⟩) (by show qP _ _ (E206 77) = _; rw [b218]; exact hV177.src _ g231) (vE (xV hr) rfl) (by first | omega | (simp only [List.length_append, List.length_cons, List.length_nil, List.length_drop, List.length_take]; omega)) ?_
     intro S239 H240 sS239 fS239 oS239
     have ne242 := aL fS239 r232 (ApartL.of aS)
     have ne243 := aL fS239 r233 (ApartL.of aS)
     have ne244 := aL fS239 r234 (ApartL.of aS)
     have ne245 := aL fS239 r235 (ApartL.of aS)
     have ne246 := aL fS239 r236 (ApartL.of aS)
     have ne247 := aL fS239 r237 (ApartL.of aS)
     have ne248 : ApartS (S239) (S80) := fS239.apartS s238.lt (ApartS.of (l := p207) am)
     have fr249 : FreshS H.next (S239) := fS239.fresh (FreshS.of_le op207) g231.next
     have g250 := Grew.trans g231 oS239
     have r251 := oS239.at r232
     have r252 := oS239.at r233
     have r253 := oS239.at r234
     have r254 := oS239.at r235
     have r256 := oS239.at r236
     have r257 := oS239.at r237
     have s258 := s238.grew oS239
     have q259 := q205.app (kL : KdsL [.one] [S239])
     refine qL (φ := φ0) (pm := pmM 4 [] 4) 20 (ws := [wf lp [nF 0, n1 1], wf p25 [nF 2, nF 3, nF 4], wf p53 [l0, l0, l0, nF 2, nF 3, nF 4, nF 5, .lit (.int .i64 1), nI 6], wf p146 [n2 11, n2 12, n2 13, nF 14, nF 15, nF 16, nF 17, nI 18, nI 19], ⟨p17, 0, [lF, lN], true⟩, ⟨p21, 0, [l0, l0, l0], true⟩]) (env := [(77, n1 20), (85, n1 22), (18, .ptr 3 0), (2, nF 5), (6, .ptr 1 0), (16, .ptr 2 0), (3, nI 6), (0, .ptr 0 0), (10, .ptr 4 0), (11, .ptr 5 0), (17, n1 10), (14, nI 8), (78, n1 23)]) q259 wA sd .nil (eC q259 (sc (sp B7) (.cons qB .nil))) vI qO ?_
     refine zE kr fun vs ls H260 E260 st hE => ?_
     have b261 := eo st hE 78 S239
     have b262 := eo st hE 85 V204
     have B8 := es st hE [(78, S239), (85, V204), (18, .ptr p146 0), (2, .flt .f32 wt), (6, .ptr p25 0), (16, .ptr p53 0), (3, .int .i64 t), (0, .ptr lp 0), (10, .ptr p17 0), (11, .ptr p21 0), (17, S80), (14, .int .i64 (k138 : Int))]
     have g273 : Grew H240 H260 := (gk st)
     have g274 := Grew.trans g250 g273
     have r275 := g273.at r251
     have r276 := g273.at r252
     have r277 := g273.at r253
     have r278 := g273.at r254
     have r279 := g273.at r256
     have r280 := g273.at r257
     have s281 := s258.grew g273
     have s282 := sS239.grew g273
     refine qGL (free := true) (d := (some 86)) (sz := 9) (bytes := 48) (x := .tmp 78) (y := .tmp 85) kr (S := S239) (ms := ((ms.take k138).drop 0)) (ys := ((ms.take ms.length).drop (k138 + 1))) (by show E260 78 = _; exact b261) s282 (xV hr).len (by show qP _ _ (E260 85) = _; rw [b262]; exact hV204.src _ g274) (vE (xV hr) rfl) (by first | omega | (simp only [List.length_append, List.length_cons, List.length_nil, List.length_drop, List.length_take]; omega)) ?_
     intro S283 H284 sS283 fS283 oS283
     have ne285 := aL fS283 r275 am
     have ne286 := aL fS283 r276 am
     have ne287 := aL fS283 r277 am
     have ne288 := aL fS283 r278 am
     have ne289 := aL fS283 r279 am
     have ne290 := aL fS283 r280 am
     have ne291 : ApartS (S283) (S80) := fS283.apartS s281.lt (by first | assumption | exact ApartS.symm am)
     have fr292 : FreshS H.next (S283) := fS283.fresh fr249 g274.next
     have g293 : Grew H H284 := OnlyS.own g274 fr249 oS283
     have r294 := oS283.at r275 am
     have r295 := oS283.at r276 am
     have r296 := oS283.at r277 am
     have r297 := oS283.at r278 am
     have r298 := oS283.at r279 am
     have r299 := oS283.at r280 am
     have s300 := s281.only oS283 (ApartS.symm (by first | assumption | exact ApartS.symm am))
     refine ⟨.inl rfl, ?_⟩
     refine gP 3 kr ?_
     have q301 := q259.app (kL : KdsL [.one] [S283])
     refine qL (φ := φ0) (pm := pmM 3 [] 4) 20 (ws := [wf lp [nF 0, n1 1], wf p25 [nF 2, nF 3, nF 4], wf p146 [n2 11, n2 12, n2 13, nF 14, nF 15, nF 16, nF 17, nI 18, nI 19], ⟨p17, 0, [lF, lN], true⟩, ⟨p21, 0, [l0, l0, l0], true⟩, ⟨p53, 0, [l0, l0, l0, nF 2, nF 3, nF 4, nF 5, .lit (.int .i64 1), nI 6], true⟩]) (env := [(78, n1 23), (85, n1 22), (18, .ptr 2 0), (2, nF 5), (6, .ptr 1 0), (16, .ptr 5 0), (3, nI 6), (0, .ptr 0 0), (10, .ptr 3 0), (11, .ptr 4 0), (17, n1 10), (14, nI 8), (86, n1 24)]) q301 wA sd .nil (eC q301 (sc (sp B8) (.cons qB .nil))) vI qO ?_
     refine zE kr fun vs ls H302 E302 st hE => ?_
     have r303 : H302.get p17 = some (.row [.flt .f32 (some 0), .nilslice] true) := rW st 3
     have r304 : H302.get p21 = some (.row [.int .i32 0, .int .i32 0, .int .i32 0] true) := rW st 4
     obtain ⟨w305, hw305⟩ : ∃ z, z = (fop .quo .f32 (fop .add .f32 (fop .mul .f32 v139_6 v139_3) (fop .mul .f32 wt a)) (fop .add .f32 v139_6 wt)) := ⟨_, rfl⟩
     obtain ⟨w306, hw306⟩ : ∃ z, z = (fop .quo .f32 (fop .add .f32 (fop .mul .f32 v139_6 v139_4) (fop .mul .f32 wt b)) (fop .add .f32 v139_6 wt)) := ⟨_, rfl⟩
     obtain ⟨w307, hw307⟩ : ∃ z, z = (fop .quo .f32 (fop .add .f32 (fop .mul .f32 v139_6 v139_5) (fop .mul .f32 wt c)) (fop .add .f32 v139_6 wt)) := ⟨_, rfl⟩
     obtain ⟨w308, hw308⟩ : ∃ z, z = (fop .add .f32 v139_6 wt) := ⟨_, rfl⟩
     have r309 : H302.get p53 = some (.row [.int .i32 0, .int .i32 0, .int .i32 0, .flt .f32 (fop .quo .f32 (fop .add .f32 (fop .mul .f32 v139_6 v139_3) (fop .mul .f32 wt a)) (fop .add .f32 v139_6 wt)), .flt .f32 (fop .quo .f32 (fop .add .f32 (fop .mul .f32 v139_6 v139_4) (fop .mul .f32 wt b)) (fop .add .f32 v139_6 wt)), .flt .f32 (fop .quo .f32 (fop .add .f32 (fop .mul .f32 v139_6 v139_5) (fop .mul .f32 wt c)) (fop .add .f32 v139_6 wt)), .flt .f32 (fop .add .f32 v139_6 wt), .int .i64 1, .int .i64 t] true) := rW st 5
     rw [<- hw305] at r309
     rw [<- hw306] at r309
     rw [<- hw307] at r309
     rw [<- hw308] at r309
     have b310 : E302 19 = .flt .f32 w308 := by rw [hw308]; exact eo st hE 19 _
     have B9 := es st hE [(18, .ptr p146 0), (16, .ptr p53 0), (3, .int .i64 t), (0, .ptr lp 0), (10, .ptr p17 0), (11, .ptr p21 0), (17, S283), (14, .int .i64 (k138 : Int))]
     have g320 : Grew H H302 := qI g293 st.inn.kept ⟨op17, ⟨op21, ⟨op53, trivial⟩⟩⟩
     have r321 := qW st.inn.kept r294 ⟨aS, ⟨aS, ⟨aS, trivial⟩⟩⟩
     have r323 := qW st.inn.kept r297 ⟨aS, ⟨aS, ⟨aS, trivial⟩⟩⟩
     have s324 := s300.keep st.inn.kept ⟨by assumption, ⟨by assumption, ⟨by assumption, trivial⟩⟩⟩
     have s325 := sS283.keep st.inn.kept ⟨by assumption, ⟨by assumption, ⟨by assumption, trivial⟩⟩⟩
     refine qFM kr ?_
     refine qAH 2 (fun E H' => ∃ (nw2326 : ON), E 18 = .ptr p146 0 /\ E 16 = .ptr p53 0 /\ E 3 = .int .i64 t /\ E 0 = .ptr lp 0 /\ E 10 = .ptr p17 0 /\ E 11 = .ptr p21 0 /\ E 17 = S283 /\ E 14 = .int .i64 (k138 : Int) /\ Grew H H' /\ H'.get lp = some (.row [.flt .f32 x, S] true) /\ H'.get p146 = some (.row [.int .i32 v139_0, .int .i32 v139_1, .int .i32 v139_2, .flt .f32 v139_3, .flt .f32 v139_4, .flt .f32 v139_5, .flt .f32 v139_6, .int .i64 v139_7, .int .i64 v139_8] true) /\ H'.get p17 = some (.row [.flt .f32 (some 0), .nilslice] true) /\ H'.get p21 = some (.row [.int .i32 0, .int .i32 0, .int .i32 0] true) /\ H'.get p53 = some (.row [.int .i32 0, .int .i32 0, .int .i32 0, .flt .f32 w305, .flt .f32 w306, .flt .f32 w307, .flt .f32 nw2326, .int .i64 1, .int .i64 t] true) /\ SlF H' 9 ms S80 /\ SlF H' 9 (((ms.take k138).drop 0) ++ ((ms.take ms.length).drop (k138 + 1))) S283 /\ nw2326 = qCY v139_6 wt /\ fOk .f32 nw2326) kr ?_ ?_
     ·have q327 := q301.app (.cons ⟨_, rfl, hw305 ▸ zM⟩ (.cons ⟨_, rfl, hw306 ▸ zM⟩ (.cons ⟨_, rfl, hw307 ▸ zM⟩ (.cons ⟨_, rfl, hw308 ▸ zM⟩ .nil))) : KdsL [KF, KF, KF, KF] [.flt .f32 w305, .flt .f32 w306, .flt .f32 w307, .flt .f32 w308])
      refine qL (φ := φ0) (pm := pmM 2 [] 4) 20 (ws := [wf lp [nF 0, n1 1], wf p146 [n2 11, n2 12, n2 13, nF 14, nF 15, nF 16, nF 17, nI 18, nI 19], ⟨p17, 0, [lF, lN], true⟩, ⟨p21, 0, [l0, l0, l0], true⟩, ⟨p53, 0, [l0, l0, l0, nF 25, nF 26, nF 27, nF 28, .lit (.int .i64 1), nI 6], true⟩]) (env := [(18, .ptr 1 0), (16, .ptr 4 0), (3, nI 6), (0, .ptr 0 0), (10, .ptr 2 0), (11, .ptr 3 0), (17, n1 24), (14, nI 8), (19, nF 28)]) q327 wA sd .nil (eC q327 (sc B9 (.cons b310 .nil))) vI qO ?_
      refine bV kr ?_ ?_
      ·intro vs ls H328 E328 st hE
       have f329 : (qN .f32 (fop .sub .f32 w308 w308) (some 0) == some .eq) = false := bf st 0
       have r330 : H328.get p17 = some (.row [.flt .f32 (some 0), .nilslice] true) := rW st 2
       have r331 : H328.get p21 = some (.row [.int .i32 0, .int .i32 0, .int .i32 0] true) := rW st 3
       have r332 : H328.get p53 = some (.row [.int .i32 0, .int .i32 0, .int .i32 0, .flt .f32 w305, .flt .f32 w306, .flt .f32 w307, .flt .f32 v139_6, .int .i64 1, .int .i64 t] true) := rW st 4
       have b333 := eo st hE 18 (.ptr p146 0)
       have b334 := eo st hE 16 (.ptr p53 0)
       have b335 := eo st hE 3 (.int .i64 t)
       have b336 := eo st hE 0 (.ptr lp 0)
       have b337 := eo st hE 10 (.ptr p17 0)
       have b338 := eo st hE 11 (.ptr p21 0)
       have b339 := eo st hE 17 S283
       have b340 := eo st hE 14 (.int .i64 (k138 : Int))
       have g342 : Grew H H328 := qI g320 st.inn.kept ⟨op17, ⟨op21, ⟨op53, trivial⟩⟩⟩
       have r343 := qW st.inn.kept r321 ⟨aS, ⟨aS, ⟨aS, trivial⟩⟩⟩
       have r344 := qW st.inn.kept r323 ⟨aS, ⟨aS, ⟨aS, trivial⟩⟩⟩
       have s345 := s324.keep st.inn.kept ⟨by assumption, ⟨by assumption, ⟨by assumption, trivial⟩⟩⟩
       have s346 := s325.keep st.inn.kept ⟨by assumption, ⟨by assumption, ⟨by assumption, trivial⟩⟩⟩
       have hf9 : bJ (fop .add .f32 v139_6 wt) = false := by rw [<- xF]; first | exact f329 | (rw [hw308] at f329; exact f329)
       have hw9 : qCY v139_6 wt = v139_6 := by unfold qCY; rw [hf9]; first | rfl | exact (‹v139_6 = _›).symm
       exact vQ kr ⟨v139_6, b333, b334, b335, b336, b337, b338, b339, b340, g342, r343, r344, r330, r331, r332, s345, s346, hw9.symm, ho139_6⟩
      ·intro vs ls H347 E347 st hE
       have f348 : (qN .f32 (fop .sub .f32 w308 w308) (some 0) == some .eq) = true := bf st 0
       have b349 := eo st hE 18 (.ptr p146 0)
       have b350 := eo st hE 16 (.ptr p53 0)
       have b351 := eo st hE 3 (.int .i64 t)
       have b352 := eo st hE 0 (.ptr lp 0)
       have b353 := eo st hE 10 (.ptr p17 0)
       have b354 := eo st hE 11 (.ptr p21 0)
       have b355 := eo st hE 17 S283
       have b356 := eo st hE 14 (.int .i64 (k138 : Int))
       have g357 : Grew H302 H347 := (gk st)
       have g358 := Grew.trans g320 g357
       have r359 := g357.at r321
       have r360 := g357.at r323
       have r361 := g357.at r303
       have r362 := g357.at r304
       have r363 := g357.at r309
       have s364 := s324.grew g357
       have s365 := s325.grew g357
       have hf9 : bJ (fop .add .f32 v139_6 wt) = true := by rw [<- xF]; first | exact f348 | (rw [hw308] at f348; exact f348)
       have hw9 : qCY v139_6 wt = w308 := by unfold qCY; rw [hf9]; first | rfl | exact (‹w308 = _›).symm
       exact vQ kr ⟨w308, b349, b350, b351, b352, b353, b354, b355, b356, g358, r359, r360, r361, r362, r363, s364, s365, hw9.symm, hw308 ▸ zM⟩
     ·rintro E326 H326 ⟨nw2326, c326_18, c326_16, c326_3, c326_0, c326_10, c326_11, c326_17, c326_14, gt326, r326_0, r326_1, r326_2, r326_3, r326_4, so326_0, so326_1, hfw326, hfo326⟩
      have q366 := q301.app (.cons ⟨_, rfl, hw305 ▸ zM⟩ (.cons ⟨_, rfl, hw306 ▸ zM⟩ (.cons ⟨_, rfl, hw307 ▸ zM⟩ (.cons ⟨_, rfl, hw308 ▸ zM⟩ (.cons (kF hfo326) .nil)))) : KdsL [KF, KF, KF, KF, KF] [.flt .f32 w305, .flt .f32 w306, .flt .f32 w307, .flt .f32 w308, .flt .f32 nw2326])
      refine qL (φ := φ0) (pm := pmM 2 [] 4) 20 (ws := [wf lp [nF 0, n1 1], wf p146 [n2 11, n2 12, n2 13, nF 14, nF 15, nF 16, nF 17, nI 18, nI 19], ⟨p17, 0, [lF, lN], true⟩, ⟨p21, 0, [l0, l0, l0], true⟩, ⟨p53, 0, [l0, l0, l0, nF 25, nF 26, nF 27, nF 29, .lit (.int .i64 1), nI 6], true⟩]) (env := [(18, .ptr 1 0), (16, .ptr 4 0), (3, nI 6), (0, .ptr 0 0), (10, .ptr 2 0), (11, .ptr 3 0), (17, n1 24), (14, nI 8)]) q366 wA sd .nil (eC q366 (.cons c326_18 (.cons c326_16 (.cons c326_3 (.cons c326_0 (.cons c326_10 (.cons c326_11 (.cons c326_17 (.cons c326_14 .nil))))))))) vI qO ?_
      refine zE kr fun vs ls H367 E367 st hE => ?_
      obtain ⟨w368, hw368⟩ : ∃ z, z = (IntKind.wrap .i64 (v139_7 + 1)) := ⟨_, rfl⟩
      have b369 : E367 123 = .int .i64 w368 := by rw [hw368]; exact eo st hE 123 _
      have B10 := es st hE [(16, .ptr p53 0), (18, .ptr p146 0), (3, .int .i64 t), (0, .ptr lp 0), (10, .ptr p17 0), (11, .ptr p21 0), (17, S283), (14, .int .i64 (k138 : Int))]
      have g378 : Grew H326 H367 := (gk st)
      have g379 := Grew.trans gt326 g378
      have r380 := g378.at r326_0
      have r381 := g378.at r326_1
      have r382 := g378.at r326_2
      have r383 := g378.at r326_3
      have r384 := g378.at r326_4
      have s386 := so326_1.grew g378
      have q387 := q366.app (kL : KdsL [KI, KI, KI] [.int .i64 w368, .int .i64 (min w368 1000000), .int .i64 (max v139_8 t)])
      refine qL (φ := φ0) (pm := pmM 2 [(.call 67 [nI 30, .lit (.int .i64 1000000)], nI 31), (.call 68 [nI 19, nI 6], nI 32)] 4) 20 (ws := [wf lp [nF 0, n1 1], wf p146 [n2 11, n2 12, n2 13, nF 14, nF 15, nF 16, nF 17, nI 18, nI 19], ⟨p17, 0, [lF, lN], true⟩, ⟨p21, 0, [l0, l0, l0], true⟩, ⟨p53, 0, [l0, l0, l0, nF 25, nF 26, nF 27, nF 29, .lit (.int .i64 1), nI 6], true⟩]) (env := [(16, .ptr 4 0), (18, .ptr 1 0), (3, nI 6), (0, .ptr 0 0), (10, .ptr 2 0), (11, .ptr 3 0), (17, n1 24), (14, nI 8), (123, nI 30)]) q387 wA sd (.cons (qG (args := [.int .i64 w368, .int .i64 1000000]) (dL q387) (dE q387) (fun H9 hk => qLm w368 1000000 H9)) (.cons (qG (args := [.int .i64 v139_8, .int .i64 t]) (dL q387) (dE q387) (fun H9 hk => qLl v139_8 t H9)) .nil)) (eC q387 (sc B10 (.cons b369 .nil))) vI qO ?_
      refine zE kr fun vs ls H388 E388 st hE => ?_
      have r389 : H388.get p17 = some (.row [.flt .f32 (some 0), .nilslice] true) := rW st 2
      have r390 : H388.get p21 = some (.row [.int .i32 0, .int .i32 0, .int .i32 0] true) := rW st 3
      have r391 : H388.get p53 = some (.row [.int .i32 0, .int .i32 0, .int .i32 0, .flt .f32 w305, .flt .f32 w306, .flt .f32 w307, .flt .f32 nw2326, .int .i64 (min w368 1000000), .int .i64 (max v139_8 t)] true) := rW st 4
      have b392 := eo st hE 0 (.ptr lp 0)
      have b393 := eo st hE 16 (.ptr p53 0)
      have b394 := eo st hE 10 (.ptr p17 0)
      have b395 := eo st hE 11 (.ptr p21 0)
      have b396 := eo st hE 17 S283
      have b397 := eo st hE 14 (.int .i64 (k138 : Int))
      have g399 : Grew H H388 := qI g379 st.inn.kept ⟨op17, ⟨op21, ⟨op53, trivial⟩⟩⟩
      have r400 := qW st.inn.kept r380 ⟨aS, ⟨aS, ⟨aS, trivial⟩⟩⟩
      have s403 := s386.keep st.inn.kept ⟨by assumption, ⟨by assumption, ⟨by assumption, trivial⟩⟩⟩
      have hM9 : qBP x ms a b c wt t g = [.flt .f32 w305, .flt .f32 w306, .flt .f32 w307, .flt .f32 nw2326, .int .i64 (min w368 1000000), .int .i64 (max v139_8 t)] := by
       have hk9 := ho.mks _ (List.getElem_mem hlt139)
       rw [hm139] at hk9
       obtain ⟨k1, k2, k3, k4⟩ := pY hk9
       have hwr9 : IntKind.wrap .i64 (v139_7 + 1) = v139_7 + 1 := wrap_i64 om om
       unfold qBP; rw [hN]
       show (if (((k138 : Nat) : Int)) < 0 then _ else qNY (ms.getD (Int.toNat ((k138 : Nat) : Int)) []) a b c wt t) = _
       rw [if_neg om, Int.toNat_natCast, he139]
       have hw9 : qCY v139_6 wt = nw2326 := hfw326.symm
       have hs9 : min (v139_7 + 1) 1000000 = (min w368 1000000) := by omega
       have hl9 : max v139_8 t = (max v139_8 t) := by omega
       show [AV.flt .f32 (qGE v139_6 v139_3 wt a), .flt .f32 (qGE v139_6 v139_4 wt b), .flt .f32 (qGE v139_6 v139_5 wt c), .flt .f32 (qCY v139_6 wt), .int .i64 (min (v139_7 + 1) 1000000), .int .i64 (max v139_8 t)] = _
       rw [hw9, hs9, hl9, hw305, hw306, hw307]
       first | rfl | (rw [hw308]; rfl)
      exact vQ kr ⟨w305, w306, w307, nw2326, (min w368 1000000), (max v139_8 t), S283, b397, b392, b393, b394, b395, b396, g399, r400, r391, r389, r390, (by rw [show (wY x ms a b c g) = ms.eraseIdx k138 by unfold wY; rw [hN]; show (if (((k138 : Nat) : Int)) < 0 then _ else ms.eraseIdx (Int.toNat ((k138 : Nat) : Int))) = _; rw [if_neg om, Int.toNat_natCast], <- qJW]; exact s403), fr292, am, am, am, am, hM9, hw305 ▸ zM, hw306 ▸ zM, hw307 ▸ zM, hfo326⟩
    ·intro vs ls H404 E404 st hE
     have f405 : i1 < 0 := dt st 0
     have b406 := eo st hE 0 (.ptr lp 0)
     have b407 := eo st hE 16 (.ptr p53 0)
     have b408 := eo st hE 10 (.ptr p17 0)
     have b409 := eo st hE 11 (.ptr p21 0)
     have b410 := eo st hE 17 S80
     have b411 := eo st hE 14 (.int .i64 i1)
     have g412 : Grew H97 H404 := (gk st)
     have g413 := Grew.trans g108 g412
     have r414 := g412.at r109
     have r416 := g412.at r111
     have r417 := g412.at r112
     have r418 := g412.at r113
     have s419 := s114.grew g412
     have hneg9 : (jA x ms a b c g).1 < 0 := by rw [hN]; exact f405
     have hM9 : qBP x ms a b c wt t g = [.flt .f32 a, .flt .f32 b, .flt .f32 c, .flt .f32 wt, .int .i64 1, .int .i64 t] := by
      unfold qBP; rw [if_pos hneg9]
     exact vQ kr ⟨a, b, c, wt, 1, t, S80, b411, b406, b407, b408, b409, b410, g413, r414, r416, r417, r418, (by rw [show (wY x ms a b c g) = ms by unfold wY; rw [if_pos hneg9]]; exact s419), fr88, am, am, am, am, hM9, ha, hb, hc, hwt⟩
   ·rintro E115 H115 ⟨np115, nq115, nr115, nw115, ns115, nl115, sa115, c115_14, c115_0, c115_16, c115_10, c115_11, ca115, gt115, r115_0, r115_2, r115_3, r115_4, s115, f115, ap115_0, ap115_2, ap115_3, ap115_4, hM115, hp115, hq115, hr115, hw115⟩
    obtain ⟨c0115, c1115, c2115, dd115, hce115⟩ := wW x np115 nq115 nr115
    have hvM115 : zF nw115 = true /\ (1 <= ns115 /\ ns115 <= 1000000) /\ 0 <= nl115 /\ nl115 <= 1000000000 := by
     obtain ⟨p9, q9, r9, w9, s9, l9, hM9, _, _, _, _, hv9⟩ := qFE (x := x) (t := t) (g := g) ho ha hb hc hwt
     rw [hM115] at hM9
     simp only [List.cons.injEq, AV.flt.injEq, AV.int.injEq, true_and, and_true] at hM9
     obtain ⟨rfl, rfl, rfl, rfl, rfl, rfl⟩ := hM9
     exact hv9 (show zF wt = true from by unfold zF; rw [<- xF, f16, f15]; rfl) om om
    have q420 := q96.app (kL : KdsL [.one, KF, KF, KF, KF, KI, KI, K2, K2, K2, KI, K2, K2, K2, KI] [sa115, .flt .f32 np115, .flt .f32 nq115, .flt .f32 nr115, .flt .f32 nw115, .int .i64 ns115, .int .i64 nl115, .int .i32 c0115, .int .i32 c1115, .int .i32 c2115, .int .i64 dd115, .int .i32 c0115, .int .i32 c1115, .int .i32 c2115, .int .i64 dd115])
    refine qL (φ := φ0) (pm := pmM 1 [(.call 69 [nF 0, .agg [nF 12, nF 13, nF 14]], .tup [.agg [n2 22, n2 23, n2 24], nI 25])] 4) 20 (ws := [wf lp [nF 0, n1 1], ⟨p17, 0, [lF, lN], true⟩, ⟨p21, 0, [l0, l0, l0], true⟩, ⟨p53, 0, [l0, l0, l0, nF 12, nF 13, nF 14, nF 15, nI 16, nI 17], true⟩]) (env := [(14, nI 8), (0, .ptr 0 0), (16, .ptr 3 0), (10, .ptr 1 0), (11, .ptr 2 0), (17, n1 11)]) q420 wA sd (.cons (qG (args := [.flt .f32 x, .agg [.flt .f32 np115, .flt .f32 nq115, .flt .f32 nr115]]) (r := .tuple [.agg [.int .i32 c0115, .int .i32 c1115, .int .i32 c2115], .int .i64 dd115]) (dL q420) (dE q420) (fun H9 hk => (by have h9 := qCB x np115 nq115 nr115 hx hp115 hq115 hr115 H9; rw [hce115] at h9; exact h9))) .nil) (eC q420 (.cons c115_14 (.cons c115_0 (.cons c115_16 (.cons c115_10 (.cons c115_11 (.cons ca115 .nil))))))) vI qO ?_
    refine bV kr ?_ ?_
    ·intro vs ls H421 E421 st hE
     have f422 : ¬ (dd115 = 0) := df st 0
     have gz : Grew H H421 := (qI gt115 (st.inn.kept) ⟨op17, ⟨op21, ⟨op53, trivial⟩⟩⟩)
     have hC : vW x ms a b c wt t g = 3 := by
      unfold vW; rw [if_pos ⟨(show zF wt = true from by unfold zF; rw [<- xF, f16, f15]; rfl), by omega, by omega⟩]
      rw [if_pos (show (jA x ms a b c g).2 = 0 by rw [hN]; exact f48), hM115]
      show (if (zJ x np115 nq115 nr115).2 = 0 then (if jQ _ ((zJ x np115 nq115 nr115).1 ++ _) = true then (0 : Int) else 3) else 3) = _
      rw [hce115]
      show (if dd115 = 0 then (if jQ _ ([.int .i32 c0115, .int .i32 c1115, .int .i32 c2115] ++ _) = true then (0 : Int) else 3) else 3) = _
      rw [if_neg f422]
     obtain ⟨_, eX, eP2, eK2, eL2⟩ := vC hC (by decide)
     exact re st hE (.tuple [.agg [.flt .f32 (some 0), .nilslice], .agg [.int .i32 0, .int .i32 0, .int .i32 0], .bool false, .int .i64 3]) gz.next (by rw [hC, eX, eL2]; exact ⟨gz, _, _, _, rfl, (.nil rfl), FreshS.nil, (.cons kA (.cons kA (.cons kA .nil))), fun h9 => absurd h9 (by decide)⟩)
    ·intro vs ls H423 E423 st hE
     have f424 : dd115 = 0 := dt st 0
     obtain ⟨p425, e426, r427, n428⟩ := pO st hE 23 5 [.flt .f32 (some 0), .nilslice]
     have op425 : H.next <= p425 := Nat.le_trans gt115.next (oM n428)
     obtain ⟨p429, e430, r431, n432⟩ := pO st hE 21 4 [.int .i32 c0115, .int .i32 c1115, .int .i32 c2115]
     have op429 : H.next <= p429 := Nat.le_trans gt115.next (oM n432)
     have ne433 := pn st hE 23 5 21 4 [lF, lN] e426 e430
     have ne434 := apn r115_0 (oM n428)
     have ne435 := apn r115_3 (oM n428)
     have ne436 := apn r115_4 (oM n428)
     have ne437 := apn r115_2 (oM n428)
     have ne438 : ApartL (sa115) p425 := s115.apart_new (oM n428)
     have ne439 := apn r115_0 (oM n432)
     have ne440 := apn r115_3 (oM n432)
     have ne441 := apn r115_4 (oM n432)
     have ne442 := apn r115_2 (oM n432)
     have ne443 : ApartL (sa115) p429 := s115.apart_new (oM n432)
     have r444 : H423.get p17 = some (.row [.flt .f32 (some 0), .nilslice] true) := rW st 1
     have r445 : H423.get p21 = some (.row [.int .i32 0, .int .i32 0, .int .i32 0] true) := rW st 2
     have b447 := eo st hE 152 sa115
     have b448 := eo st hE 153 (.agg [.int .i32 c0115, .int .i32 c1115, .int .i32 c2115, .flt .f32 np115, .flt .f32 nq115, .flt .f32 nr115, .flt .f32 nw115, .int .i64 ns115, .int .i64 nl115])
     have B11 := es st hE [(152, sa115), (153, .agg [.int .i32 c0115, .int .i32 c1115, .int .i32 c2115, .flt .f32 np115, .flt .f32 nq115, .flt .f32 nr115, .flt .f32 nw115, .int .i64 ns115, .int .i64 nl115]), (151, .flt .f32 x), (14, .int .i64 i1), (10, .ptr p17 0), (11, .ptr p21 0)]
     have g454 : Grew H H423 := qI gt115 st.inn.kept ⟨op17, ⟨op21, ⟨op53, trivial⟩⟩⟩
     have s456 := s115.keep st.inn.kept ⟨by assumption, ⟨by assumption, ⟨by assumption, trivial⟩⟩⟩
     refine tB (free := false) (d := (some 154)) (f := 31) (args := [.tmp 152, .tmp 153]) kr (R := fun z H' => Grew H423 H' /\ SlF H' 9 (pA (wY x ms a b c g) [.int .i32 c0115, .int .i32 c1115, .int .i32 c2115, .flt .f32 np115, .flt .f32 nq115, .flt .f32 nr115, .flt .f32 nw115, .int .i64 ns115, .int .i64 nl115]) z /\ FreshS H423.next z) ?_ ?_
     ·show qJ _ _ [E423 152, E423 153] _ _
      rw [b447, b448]
      exact qLn H423 (wY x ms a b c g) (xK x ho a b c g).rcs (sa115) s456.toL (Nat.le_trans (xK x ho a b c g).len (by decide)) (xK x ho a b c g).mks c0115 c1115 c2115 np115 nq115 nr115 nw115 ns115 nl115 hp115 hq115 hr115 hw115 (qHB (by rw [hce115, f424]) hvM115)
     rintro S457 H458 ⟨gS457, sS457, fS457⟩
     refine ⟨gS457, ?_⟩
     have ne459 : ApartL (S457) p425 := fS457.apartL (H423.lt_of_get r427)
     have ne460 : ApartL (S457) p429 := fS457.apartL (H423.lt_of_get r431)
     have ne461 : ApartL (S457) p17 := fS457.apartL (H423.lt_of_get r444)
     have ne462 : ApartL (S457) p21 := fS457.apartL (H423.lt_of_get r445)
     have ne463 : ApartS (S457) (sa115) := fS457.apartS s456.lt
     have fr464 : FreshS H.next (S457) := fS457.mono g454.next
     have g465 := Grew.trans g454 gS457
     have r466 := gS457.at r427
     have r467 := gS457.at r431
     have r468 := gS457.at r444
     have r469 := gS457.at r445
     have q471 := q420.app (kL : KdsL [.one, KI, KI] [S457, .int .i64 ((pA (wY x ms a b c g) [.int .i32 c0115, .int .i32 c1115, .int .i32 c2115, .flt .f32 np115, .flt .f32 nq115, .flt .f32 nr115, .flt .f32 nw115, .int .i64 ns115, .int .i64 nl115]).length : Int), .int .i64 ((pA (wY x ms a b c g) [.int .i32 c0115, .int .i32 c1115, .int .i32 c2115, .flt .f32 np115, .flt .f32 nq115, .flt .f32 nr115, .flt .f32 nw115, .int .i64 ns115, .int .i64 nl115]).length : Int)])
     refine qL (φ := φ0) (pm := pmM 1 [(.len (n1 26), nI 28)] 4) 20 (ws := [wf p429 [n2 22, n2 23, n2 24], ⟨p17, 0, [lF, lN], true⟩, ⟨p21, 0, [l0, l0, l0], true⟩, ⟨p425, 0, [lF, lN], true⟩]) (env := [(152, n1 11), (153, .agg [n2 22, n2 23, n2 24, nF 12, nF 13, nF 14, nF 15, nI 16, nI 17]), (151, nF 0), (14, nI 8), (10, .ptr 1 0), (11, .ptr 2 0), (23, .ptr 3 0), (21, .ptr 0 0), (154, n1 26)]) q471 wA sd (.cons (⟨_, _, (dE q471), (dE q471), mF (sS457.toL)⟩) .nil) (eC q471 (sc (sp B11) (.cons (qC rfl e426) (.cons (qC rfl e430) (.cons qB .nil))))) vI qO ?_
     refine bV kr ?_ ?_
     ·intro vs ls H472 E472 st hE
      have f473 : 200 < ((pA (wY x ms a b c g) [.int .i32 c0115, .int .i32 c1115, .int .i32 c2115, .flt .f32 np115, .flt .f32 nq115, .flt .f32 nr115, .flt .f32 nw115, .int .i64 ns115, .int .i64 nl115]).length : Int) := dt st 0
      have r474 : H472.get p17 = some (.row [.flt .f32 (some 0), .nilslice] true) := rW st 1
      have r475 : H472.get p21 = some (.row [.int .i32 0, .int .i32 0, .int .i32 0] true) := rW st 2
      have r476 : H472.get p425 = some (.row [.flt .f32 (some 0), .nilslice] true) := rW st 3
      obtain ⟨w481, hw481⟩ : ∃ z, z = (!(decide (i1 < 0))) := ⟨_, rfl⟩
      have b482 : E472 161 = .bool w481 := by rw [hw481]; exact eo st hE 161 _
      have B12 := es st hE [(23, .ptr p425 0), (21, .ptr p429 0), (10, .ptr p17 0), (11, .ptr p21 0), (162, .int .i64 3)]
      have g485 : Grew H H472 := qI g465 st.inn.kept ⟨op17, ⟨op21, ⟨op425, trivial⟩⟩⟩
      have r486 := qW st.inn.kept r467 ⟨aS, ⟨aS, ⟨aS, trivial⟩⟩⟩
      refine xW kr ?_ ?_
      ·have q489 := q471.app (kL : KdsL [.bool] [.bool w481])
       refine qL (φ := φ0) (pm := pmM 1 [] 4) 20 (ws := [wf p429 [n2 22, n2 23, n2 24], ⟨p17, 0, [lF, lN], true⟩, ⟨p21, 0, [l0, l0, l0], true⟩, ⟨p425, 0, [lF, lN], true⟩]) (env := [(23, .ptr 3 0), (21, .ptr 0 0), (10, .ptr 1 0), (11, .ptr 2 0), (162, .lit (.int .i64 3)), (161, nB 29)]) q489 wA sd .nil (eC q489 (sc B12 (.cons b482 .nil))) vI qO ?_
       refine zE kr fun vs ls H490 E490 st hE => ?_
       have B13 := es st hE [(21, .ptr p429 0), (10, .ptr p17 0), (158, .agg [.flt .f32 (some 0), .nilslice]), (11, .ptr p21 0), (161, .bool w481), (162, .int .i64 3)]
       have g497 : Grew H472 H490 := (gk st)
       have g498 := Grew.trans g485 g497
       have r499 := g497.at r486
       have r500 := g497.at r474
       have r501 := g497.at r475
       refine xW kr ?_ ?_
       ·refine qL (φ := φ0) (pm := pmM 1 [] 4) 20 (ws := [wf p429 [n2 22, n2 23, n2 24], ⟨p17, 0, [lF, lN], true⟩, ⟨p21, 0, [l0, l0, l0], true⟩]) (env := [(21, .ptr 0 0), (10, .ptr 1 0), (158, .agg [lF, lN]), (11, .ptr 2 0), (161, nB 29), (162, .lit (.int .i64 3))]) q489 wA sd .nil (eC q489 B13) vI qO ?_
        refine zE kr fun vs ls H506 E506 st hE => ?_
        have gz : Grew H H506 := (qI g498 (st.inn.kept) ⟨op17, ⟨op21, trivial⟩⟩)
        have hC : vW x ms a b c wt t g = 3 := by
         unfold vW; rw [if_pos ⟨(show zF wt = true from by unfold zF; rw [<- xF, f16, f15]; rfl), by omega, by omega⟩]
         rw [if_pos (show (jA x ms a b c g).2 = 0 by rw [hN]; exact f48), hM115]
         show (if (zJ x np115 nq115 nr115).2 = 0 then (if jQ _ ((zJ x np115 nq115 nr115).1 ++ _) = true then (0 : Int) else 3) else 3) = _
         rw [hce115]
         show (if dd115 = 0 then (if jQ _ ([.int .i32 c0115, .int .i32 c1115, .int .i32 c2115] ++ _) = true then (0 : Int) else 3) else 3) = _
         have hq9 := bO (m := [.int .i32 c0115, .int .i32 c1115, .int .i32 c2115, .flt .f32 np115, .flt .f32 nq115, .flt .f32 nr115, .flt .f32 nw115, .int .i64 ns115, .int .i64 nl115]) (xK x ho a b c g).len
         rw [decide_eq_false om] at hq9
         rw [if_pos f424]
         show (if jQ (wY x ms a b c g) [.int .i32 c0115, .int .i32 c1115, .int .i32 c2115, .flt .f32 np115, .flt .f32 nq115, .flt .f32 nr115, .flt .f32 nw115, .int .i64 ns115, .int .i64 nl115] = true then (0 : Int) else 3) = _
         rw [hq9]; rfl
        obtain ⟨_, eX, eP2, eK2, eL2⟩ := vC hC (by decide)
        exact re st hE (.tuple [.agg [.flt .f32 (some 0), .nilslice], .agg [.int .i32 c0115, .int .i32 c1115, .int .i32 c2115], .bool w481, .int .i64 3]) gz.next (by rw [hC, eX, eL2]; exact ⟨gz, _, _, _, rfl, (.nil rfl), FreshS.nil, (.cons kA (.cons kA (.cons kA .nil))), fun h9 => absurd h9 (by decide)⟩)
       ·refine qL (φ := φ0) (pm := pmM 1 [] 4) 20 (ws := [wf p429 [n2 22, n2 23, n2 24], ⟨p17, 0, [lF, lN], true⟩, ⟨p21, 0, [l0, l0, l0], true⟩]) (env := [(21, .ptr 0 0), (10, .ptr 1 0), (158, .agg [lF, lN]), (11, .ptr 2 0), (161, nB 29), (162, .lit (.int .i64 3))]) q489 wA sd .nil (eC q489 B13) vI qO ?_
        refine zE kr fun vs ls H508 E508 st hE => ?_
        have gz : Grew H H508 := (qI g498 (st.inn.kept) ⟨op17, ⟨op21, trivial⟩⟩)
        have hC : vW x ms a b c wt t g = 3 := by
         unfold vW; rw [if_pos ⟨(show zF wt = true from by unfold zF; rw [<- xF, f16, f15]; rfl), by omega, by omega⟩]
         rw [if_pos (show (jA x ms a b c g).2 = 0 by rw [hN]; exact f48), hM115]
         show (if (zJ x np115 nq115 nr115).2 = 0 then (if jQ _ ((zJ x np115 nq115 nr115).1 ++ _) = true then (0 : Int) else 3) else 3) = _
         rw [hce115]
         show (if dd115 = 0 then (if jQ _ ([.int .i32 c0115, .int .i32 c1115, .int .i32 c2115] ++ _) = true then (0 : Int) else 3) else 3) = _
         have hq9 := bO (m := [.int .i32 c0115, .int .i32 c1115, .int .i32 c2115, .flt .f32 np115, .flt .f32 nq115, .flt .f32 nr115, .flt .f32 nw115, .int .i64 ns115, .int .i64 nl115]) (xK x ho a b c g).len
         rw [decide_eq_false om] at hq9
         rw [if_pos f424]
         show (if jQ (wY x ms a b c g) [.int .i32 c0115, .int .i32 c1115, .int .i32 c2115, .flt .f32 np115, .flt .f32 nq115, .flt .f32 nr115, .flt .f32 nw115, .int .i64 ns115, .int .i64 nl115] = true then (0 : Int) else 3) = _
         rw [hq9]; rfl
        obtain ⟨_, eX, eP2, eK2, eL2⟩ := vC hC (by decide)
        exact re st hE (.tuple [.agg [.flt .f32 (some 0), .nilslice], .agg [.int .i32 c0115, .int .i32 c1115, .int .i32 c2115], .bool w481, .int .i64 3]) gz.next (by rw [hC, eX, eL2]; exact ⟨gz, _, _, _, rfl, (.nil rfl), FreshS.nil, (.cons kA (.cons kA (.cons kA .nil))), fun h9 => absurd h9 (by decide)⟩)
      ·have q509 := q471.app (kL : KdsL [.bool] [.bool w481])
       refine qL (φ := φ0) (pm := pmM 1 [] 4) 20 (ws := [wf p429 [n2 22, n2 23, n2 24], ⟨p17, 0, [lF, lN], true⟩, ⟨p21, 0, [l0, l0, l0], true⟩, ⟨p425, 0, [lF, lN], true⟩]) (env := [(23, .ptr 3 0), (21, .ptr 0 0), (10, .ptr 1 0), (11, .ptr 2 0), (162, .lit (.int .i64 3)), (161, nB 29)]) q509 wA sd .nil (eC q509 (sc B12 (.cons b482 .nil))) vI qO ?_
       refine zE kr fun vs ls H510 E510 st hE => ?_
       have gz : Grew H H510 := (qI g485 (st.inn.kept) ⟨op17, ⟨op21, ⟨op425, trivial⟩⟩⟩)
       have hC : vW x ms a b c wt t g = 3 := by
        unfold vW; rw [if_pos ⟨(show zF wt = true from by unfold zF; rw [<- xF, f16, f15]; rfl), by omega, by omega⟩]
        rw [if_pos (show (jA x ms a b c g).2 = 0 by rw [hN]; exact f48), hM115]
        show (if (zJ x np115 nq115 nr115).2 = 0 then (if jQ _ ((zJ x np115 nq115 nr115).1 ++ _) = true then (0 : Int) else 3) else 3) = _
        rw [hce115]
        show (if dd115 = 0 then (if jQ _ ([.int .i32 c0115, .int .i32 c1115, .int .i32 c2115] ++ _) = true then (0 : Int) else 3) else 3) = _
        have hq9 := bO (m := [.int .i32 c0115, .int .i32 c1115, .int .i32 c2115, .flt .f32 np115, .flt .f32 nq115, .flt .f32 nr115, .flt .f32 nw115, .int .i64 ns115, .int .i64 nl115]) (xK x ho a b c g).len
        rw [decide_eq_false om] at hq9
        rw [if_pos f424]
        show (if jQ (wY x ms a b c g) [.int .i32 c0115, .int .i32 c1115, .int .i32 c2115, .flt .f32 np115, .flt .f32 nq115, .flt .f32 nr115, .flt .f32 nw115, .int .i64 ns115, .int .i64 nl115] = true then (0 : Int) else 3) = _
        rw [hq9]; rfl
       obtain ⟨_, eX, eP2, eK2, eL2⟩ := vC hC (by decide)
       exact re st hE (.tuple [.agg [.flt .f32 (some 0), .nilslice], .agg [.int .i32 c0115, .int .i32 c1115, .int .i32 c2115], .bool w481, .int .i64 3]) gz.next (by rw [hC, eX, eL2]; exact ⟨gz, _, _, _, rfl, (.nil rfl), FreshS.nil, (.cons kA (.cons kA (.cons kA .nil))), fun h9 => absurd h9 (by decide)⟩)
     ·intro vs ls H511 E511 st hE
      have f512 : ¬ (200 < ((pA (wY x ms a b c g) [.int .i32 c0115, .int .i32 c1115, .int .i32 c2115, .flt .f32 np115, .flt .f32 nq115, .flt .f32 nr115, .flt .f32 nw115, .int .i64 ns115, .int .i64 nl115]).length : Int)) := df st 0
      have r513 : H511.get p17 = some (.row [.flt .f32 (some 0), .nilslice] true) := rW st 1
      have r514 : H511.get p21 = some (.row [.int .i32 0, .int .i32 0, .int .i32 0] true) := rW st 2
      have r515 : H511.get p425 = some (.row [.flt .f32 x, S457] true) := rW st 3
      obtain ⟨w520, hw520⟩ : ∃ z, z = (!(decide (i1 < 0))) := ⟨_, rfl⟩
      have b521 : E511 161 = .bool w520 := by rw [hw520]; exact eo st hE 161 _
      have B14 := es st hE [(23, .ptr p425 0), (21, .ptr p429 0), (10, .ptr p17 0), (11, .ptr p21 0), (162, .int .i64 0)]
      have g524 : Grew H H511 := qI g465 st.inn.kept ⟨op17, ⟨op21, ⟨op425, trivial⟩⟩⟩
      have r525 := qW st.inn.kept r467 ⟨aS, ⟨aS, ⟨aS, trivial⟩⟩⟩
      have s527 := sS457.keep st.inn.kept ⟨by assumption, ⟨by assumption, ⟨by assumption, trivial⟩⟩⟩
      refine xW kr ?_ ?_
      ·have q528 := q471.app (kL : KdsL [.bool] [.bool w520])
       refine qL (φ := φ0) (pm := pmM 1 [] 4) 20 (ws := [wf p429 [n2 22, n2 23, n2 24], ⟨p17, 0, [lF, lN], true⟩, ⟨p21, 0, [l0, l0, l0], true⟩, ⟨p425, 0, [nF 0, n1 26], true⟩]) (env := [(23, .ptr 3 0), (21, .ptr 0 0), (10, .ptr 1 0), (11, .ptr 2 0), (162, .lit (.int .i64 0)), (161, nB 29)]) q528 wA sd .nil (eC q528 (sc B14 (.cons b521 .nil))) vI qO ?_
       refine zE kr fun vs ls H529 E529 st hE => ?_
       have B15 := es st hE [(21, .ptr p429 0), (10, .ptr p17 0), (158, .agg [.flt .f32 x, S457]), (11, .ptr p21 0), (161, .bool w520), (162, .int .i64 0)]
       have g536 : Grew H511 H529 := (gk st)
       have g537 := Grew.trans g524 g536
       have r538 := g536.at r525
       have r539 := g536.at r513
       have r540 := g536.at r514
       have s543 := s527.grew g536
       refine xW kr ?_ ?_
       ·refine qL (φ := φ0) (pm := pmM 1 [] 4) 20 (ws := [wf p429 [n2 22, n2 23, n2 24], ⟨p17, 0, [lF, lN], true⟩, ⟨p21, 0, [l0, l0, l0], true⟩]) (env := [(21, .ptr 0 0), (10, .ptr 1 0), (158, .agg [nF 0, n1 26]), (11, .ptr 2 0), (161, nB 29), (162, .lit (.int .i64 0))]) q528 wA sd .nil (eC q528 B15) vI qO ?_
        refine zE kr fun vs ls H545 E545 st hE => ?_
        have gz : Grew H H545 := (qI g537 (st.inn.kept) ⟨op17, ⟨op21, trivial⟩⟩)
        have hC : vW x ms a b c wt t g = 0 := by
         unfold vW; rw [if_pos ⟨(show zF wt = true from by unfold zF; rw [<- xF, f16, f15]; rfl), by omega, by omega⟩]
         rw [if_pos (show (jA x ms a b c g).2 = 0 by rw [hN]; exact f48), hM115]
         show (if (zJ x np115 nq115 nr115).2 = 0 then (if jQ _ ((zJ x np115 nq115 nr115).1 ++ _) = true then (0 : Int) else 3) else 3) = _
         rw [hce115]
         show (if dd115 = 0 then (if jQ _ ([.int .i32 c0115, .int .i32 c1115, .int .i32 c2115] ++ _) = true then (0 : Int) else 3) else 3) = _
         have hq9 := bO (m := [.int .i32 c0115, .int .i32 c1115, .int .i32 c2115, .flt .f32 np115, .flt .f32 nq115, .flt .f32 nr115, .flt .f32 nw115, .int .i64 ns115, .int .i64 nl115]) (xK x ho a b c g).len
         rw [decide_eq_true om] at hq9
         rw [if_pos f424]
         show (if jQ (wY x ms a b c g) [.int .i32 c0115, .int .i32 c1115, .int .i32 c2115, .flt .f32 np115, .flt .f32 nq115, .flt .f32 nr115, .flt .f32 nw115, .int .i64 ns115, .int .i64 nl115] = true then (0 : Int) else 3) = _
         rw [hq9]; rfl
        obtain ⟨_, eX, eP, eK, eL⟩ := mE hC
        have eP2 : qGQ x ms a b c wt t g = [.int .i32 c0115, .int .i32 c1115, .int .i32 c2115] := by rw [eP, hM115]; show (zJ x np115 nq115 nr115).1 = _; rw [hce115]
        have eL2 : qFQ x ms a b c wt t g = (pA (wY x ms a b c g) [.int .i32 c0115, .int .i32 c1115, .int .i32 c2115, .flt .f32 np115, .flt .f32 nq115, .flt .f32 nr115, .flt .f32 nw115, .int .i64 ns115, .int .i64 nl115]) := by rw [eL, hM115]; show pA _ ((zJ x np115 nq115 nr115).1 ++ _) = _; rw [hce115]; rfl
        have eK2 : qHA x ms a b c wt t g = w520 := by rw [eK]; rw [hN]; exact hw520.symm
        exact re st hE (.tuple [.agg [.flt .f32 x, S457], .agg [.int .i32 c0115, .int .i32 c1115, .int .i32 c2115], .bool w520, .int .i64 0]) gz.next (by rw [hC, eX, eL2, eP2, eK2]; exact ⟨gz, _, _, _, rfl, (s543.keep st.inn.kept ⟨by assumption, ⟨by assumption, trivial⟩⟩), fr464, (.cons kA (.cons kA (.cons kA .nil))), fun _ => ⟨rfl, rfl⟩⟩)
       ·refine qL (φ := φ0) (pm := pmM 1 [] 4) 20 (ws := [wf p429 [n2 22, n2 23, n2 24], ⟨p17, 0, [lF, lN], true⟩, ⟨p21, 0, [l0, l0, l0], true⟩]) (env := [(21, .ptr 0 0), (10, .ptr 1 0), (158, .agg [nF 0, n1 26]), (11, .ptr 2 0), (161, nB 29), (162, .lit (.int .i64 0))]) q528 wA sd .nil (eC q528 B15) vI qO ?_
        refine zE kr fun vs ls H547 E547 st hE => ?_
        have gz : Grew H H547 := (qI g537 (st.inn.kept) ⟨op17, ⟨op21, trivial⟩⟩)
        have hC : vW x ms a b c wt t g = 0 := by
         unfold vW; rw [if_pos ⟨(show zF wt = true from by unfold zF; rw [<- xF, f16, f15]; rfl), by omega, by omega⟩]
         rw [if_pos (show (jA x ms a b c g).2 = 0 by rw [hN]; exact f48), hM115]
         show (if (zJ x np115 nq115 nr115).2 = 0 then (if jQ _ ((zJ x np115 nq115 nr115).1 ++ _) = true then (0 : Int) else 3) else 3) = _
         rw [hce115]
         show (if dd115 = 0 then (if jQ _ ([.int .i32 c0115, .int .i32 c1115, .int .i32 c2115] ++ _) = true then (0 : Int) else 3) else 3) = _
         have hq9 := bO (m := [.int .i32 c0115, .int .i32 c1115, .int .i32 c2115, .flt .f32 np115, .flt .f32 nq115, .flt .f32 nr115, .flt .f32 nw115, .int .i64 ns115, .int .i64 nl115]) (xK x ho a b c g).len
         rw [decide_eq_true om] at hq9
         rw [if_pos f424]
         show (if jQ (wY x ms a b c g) [.int .i32 c0115, .int .i32 c1115, .int .i32 c2115, .flt .f32 np115, .flt .f32 nq115, .flt .f32 nr115, .flt .f32 nw115, .int .i64 ns115, .int .i64 nl115] = true then (0 : Int) else 3) = _
         rw [hq9]; rfl
        obtain ⟨_, eX, eP, eK, eL⟩ := mE hC
        have eP2 : qGQ x ms a b c wt t g = [.int .i32 c0115, .int .i32 c1115, .int .i32 c2115] := by rw [eP, hM115]; show (zJ x np115 nq115 nr115).1 = _; rw [hce115]
        have eL2 : qFQ x ms a b c wt t g = (pA (wY x ms a b c g) [.int .i32 c0115, .int .i32 c1115, .int .i32 c2115, .flt .f32 np115, .flt .f32 nq115, .flt .f32 nr115, .flt .f32 nw115, .int .i64 ns115, .int .i64 nl115]) := by rw [eL, hM115]; show pA _ ((zJ x np115 nq115 nr115).1 ++ _) = _; rw [hce115]; rfl
        have eK2 : qHA x ms a b c wt t g = w520 := by rw [eK]; rw [hN]; exact hw520.symm
        exact re st hE (.tuple [.agg [.flt .f32 x, S457], .agg [.int .i32 c0115, .int .i32 c1115, .int .i32 c2115], .bool w520, .int .i64 0]) gz.next (by rw [hC, eX, eL2, eP2, eK2]; exact ⟨gz, _, _, _, rfl, (s543.keep st.inn.kept ⟨by assumption, ⟨by assumption, trivial⟩⟩), fr464, (.cons kA (.cons kA (.cons kA .nil))), fun _ => ⟨rfl, rfl⟩⟩)
      ·have q548 := q471.app (kL : KdsL [.bool] [.bool w520])
       refine qL (φ := φ0) (pm := pmM 1 [] 4) 20 (ws := [wf p429 [n2 22, n2 23, n2 24], ⟨p17, 0, [lF, lN], true⟩, ⟨p21, 0, [l0, l0, l0], true⟩, ⟨p425, 0, [nF 0, n1 26], true⟩]) (env := [(23, .ptr 3 0), (21, .ptr 0 0), (10, .ptr 1 0), (11, .ptr 2 0), (162, .lit (.int .i64 0)), (161, nB 29)]) q548 wA sd .nil (eC q548 (sc B14 (.cons b521 .nil))) vI qO ?_
       refine zE kr fun vs ls H549 E549 st hE => ?_
       have gz : Grew H H549 := (qI g524 (st.inn.kept) ⟨op17, ⟨op21, ⟨op425, trivial⟩⟩⟩)
       have hC : vW x ms a b c wt t g = 0 := by
        unfold vW; rw [if_pos ⟨(show zF wt = true from by unfold zF; rw [<- xF, f16, f15]; rfl), by omega, by omega⟩]
        rw [if_pos (show (jA x ms a b c g).2 = 0 by rw [hN]; exact f48), hM115]
        show (if (zJ x np115 nq115 nr115).2 = 0 then (if jQ _ ((zJ x np115 nq115 nr115).1 ++ _) = true then (0 : Int) else 3) else 3) = _
        rw [hce115]
        show (if dd115 = 0 then (if jQ _ ([.int .i32 c0115, .int .i32 c1115, .int .i32 c2115] ++ _) = true then (0 : Int) else 3) else 3) = _
        have hq9 := bO (m := [.int .i32 c0115, .int .i32 c1115, .int .i32 c2115, .flt .f32 np115, .flt .f32 nq115, .flt .f32 nr115, .flt .f32 nw115, .int .i64 ns115, .int .i64 nl115]) (xK x ho a b c g).len
        rw [decide_eq_true om] at hq9
        rw [if_pos f424]
        show (if jQ (wY x ms a b c g) [.int .i32 c0115, .int .i32 c1115, .int .i32 c2115, .flt .f32 np115, .flt .f32 nq115, .flt .f32 nr115, .flt .f32 nw115, .int .i64 ns115, .int .i64 nl115] = true then (0 : Int) else 3) = _
        rw [hq9]; rfl
       obtain ⟨_, eX, eP, eK, eL⟩ := mE hC
       have eP2 : qGQ x ms a b c wt t g = [.int .i32 c0115, .int .i32 c1115, .int .i32 c2115] := by rw [eP, hM115]; show (zJ x np115 nq115 nr115).1 = _; rw [hce115]
       have eL2 : qFQ x ms a b c wt t g = (pA (wY x ms a b c g) [.int .i32 c0115, .int .i32 c1115, .int .i32 c2115, .flt .f32 np115, .flt .f32 nq115, .flt .f32 nr115, .flt .f32 nw115, .int .i64 ns115, .int .i64 nl115]) := by rw [eL, hM115]; show pA _ ((zJ x np115 nq115 nr115).1 ++ _) = _; rw [hce115]; rfl
       have eK2 : qHA x ms a b c wt t g = w520 := by rw [eK]; rw [hN]; exact hw520.symm
       exact re st hE (.tuple [.agg [.flt .f32 x, S457], .agg [.int .i32 c0115, .int .i32 c1115, .int .i32 c2115], .bool w520, .int .i64 0]) gz.next (by rw [hC, eX, eL2, eP2, eK2]; exact ⟨gz, _, _, _, rfl, (s527.keep st.inn.kept ⟨by assumption, ⟨by assumption, ⟨by assumption, trivial⟩⟩⟩), fr464, (.cons kA (.cons kA (.cons kA .nil))), fun _ => ⟨rfl, rfl⟩⟩)
 ·intro vs ls H550 E550 st hE
  have f551 : t < 0 := dt st 0
  have f552 : (qN .f32 (some 0) wt == some .lt) = true := bf st 1
  have f553 : (qN .f32 (fop .sub .f32 wt wt) (some 0) == some .eq) = true := bf st 2
  have gz : Grew H H550 := (Grew.trans (Grew.refl _) (gk st))
  have hC : vW x ms a b c wt t g = 2 := by
   unfold vW; rw [if_neg (fun q9 => by have := q9.2; omega)]
  obtain ⟨_, eX, eP2, eK2, eL2⟩ := vC hC (by decide)
  exact re st hE (.tuple [.agg [.flt .f32 (some 0), .nilslice], .agg [.int .i32 0, .int .i32 0, .int .i32 0], .bool false, .int .i64 2]) gz.next (by rw [hC, eX, eL2]; exact ⟨gz, _, _, _, rfl, (.nil rfl), FreshS.nil, (.cons kA (.cons kA (.cons kA .nil))), fun h9 => absurd h9 (by decide)⟩)
theorem qCP (x : ON) (ms : LL) (a b c wt : ON) (t : Int) (g : ON) : ∃ e0 e1 e2 : Int, qGQ x ms a b c wt t g = [.int .i32 e0, .int .i32 e1, .int .i32 e2] := by
 unfold qGQ
 split
 ·rename_i h
  unfold qMd
  split
  ·rename_i k1 p k2 q k3 r tl hq
   obtain ⟨p0, p1, p2, d, h9⟩ := wW x p q r
   exact ⟨p0, p1, p2, by rw [h9]⟩
  ·exact ⟨0, 0, 0, rfl⟩
 ·exact ⟨_, _, _, rfl⟩
theorem qGR {x : ON} {ms : LL} {a b c wt : ON} {t : Int} {g : ON} (hx : fOk .f32 x) : fOk .f32 (qKN x ms a b c wt t g) := by
 unfold qKN
 split
 ·exact hx
 ·exact qOR
theorem qKn {x : ON} {ms : LL} (hg : OkMs ms) {a b c wt : ON} {t : Int} {g : ON} (ha : fOk .f32 a) (hb : fOk .f32 b) (hc : fOk .f32 c) (hw : fOk .f32 wt) : xY KM (qFQ x ms a b c wt t g) /\ (qFQ x ms a b c wt t g).length <= 200 := by
 by_cases h : vW x ms a b c wt t g = 0
 ·exact ⟨(qFR hg ha hb hc hw h).rcs, (qFR hg ha hb hc hw h).len⟩
 ·rw [(vC rfl h).2.2.2.2]; exact ⟨.nil, by decide⟩
theorem qJy (H : AHeap) (x : ON) (hx : fOk .f32 x) (ms : LL) (hr : xY KM ms) (S : AV) (hS : SlL H 9 ms S) (mxms : ms.length <= 1048576) (ho : OkMs ms) (a b c : ON) (ha : fOk .f32 a) (hb : fOk .f32 b) (hc : fOk .f32 c) (wt : ON) (hwt : fOk .f32 wt) (t : Int) (g : ON) (hg : fOk .f32 g) (lp : Nat) (hlp : H.get lp = some (.row [.flt .f32 x, S] true)) : qJ Try.prog 44 [.ptr lp 0, .agg [.flt .f32 a, .flt .f32 b, .flt .f32 c], .flt .f32 wt, .int .i64 t, .flt .f32 g] H fun r H' => Grew H H' /\ ∃ S' g0 g1 g2 kn, r = .tuple [.agg [.flt .f32 (qKN x ms a b c wt t g), S'], .agg [.int .i32 g0, .int .i32 g1, .int .i32 g2], .bool kn, .int .i64 (vW x ms a b c wt t g)] /\ SlF H' 9 (qFQ x ms a b c wt t g) S' /\ FreshS H.next S' /\ (vW x ms a b c wt t g = 0 -> qGQ x ms a b c wt t g = [.int .i32 g0, .int .i32 g1, .int .i32 g2] /\ kn = qHA x ms a b c wt t g) := by
 refine (qLo H x hx ms hr S hS mxms ho a b c ha hb hc wt hwt t g hg lp hlp).mono ?_
 rintro r H' ⟨g1, S', cl, kn, rfl, h1, h2, h3, h4⟩
 cases h3 with | cons k0 h3 => cases h3 with | cons k1 h3 => cases h3 with | cons k2 h3 =>
 cases h3
 obtain ⟨p0, rfl⟩ := k0
 obtain ⟨p1, rfl⟩ := k1
 obtain ⟨p2, rfl⟩ := k2
 exact ⟨g1, S', p0, p1, p2, kn, rfl, h1, h2, fun e => ⟨(h4 e).1.symm, (h4 e).2⟩⟩
open Classical in
noncomputable def obV (x : ON) (ms : LL) (a b c wt : ON) (t : Int) (g : ON) : ON × LL × List AV × Int :=
 if wH x ms = true then (qKN x ms a b c wt t g, qFQ x ms a b c wt t g, qGQ x ms a b c wt t g, vW x ms a b c wt t g) else (some 0, [], [.int .i32 0, .int .i32 0, .int .i32 0], 1)
theorem dO (H : AHeap) (x : ON) (hx : fOk .f32 x) (ms : LL) (hr : xY KM ms) (S : AV) (hS : SlL H 9 ms S) (mxms : ms.length <= 1048576) (a b c : ON) (ha : fOk .f32 a) (hb : fOk .f32 b) (hc : fOk .f32 c) (wt : ON) (hwt : fOk .f32 wt) (t : Int) (g : ON) (hg : fOk .f32 g) : qJ Try.prog 19 [.agg [.flt .f32 x, S], .agg [.flt .f32 a, .flt .f32 b, .flt .f32 c], .flt .f32 wt, .int .i64 t, .flt .f32 g] H fun r H' => Grew H H' /\ ∃ S', r = .tuple [.agg [.flt .f32 (obV x ms a b c wt t g).1, S'], .agg (obV x ms a b c wt t g).2.2.1, .int .i64 (obV x ms a b c wt t g).2.2.2] /\ SlW H' 9 (obV x ms a b c wt t g).2.1 S' /\ FreshS H.next S' := by
 obtain ⟨y9, hX9⟩ : ∃ z, qKN x ms a b c wt t g = z := ⟨_, rfl⟩
 obtain ⟨L9, hL9⟩ : ∃ z, qFQ x ms a b c wt t g = z := ⟨_, rfl⟩
 obtain ⟨k9, hK9⟩ : ∃ z, qHA x ms a b c wt t g = z := ⟨_, rfl⟩
 obtain ⟨d9, hC9⟩ : ∃ z, vW x ms a b c wt t g = z := ⟨_, rfl⟩
 obtain ⟨e0, e1, e2, hP9⟩ := qCP x ms a b c wt t g
 have hy9 : fOk .f32 y9 := by rw [<- hX9]; exact qGR hx
 refine qH dI (by simp) ?_
 have q1 : KdsL [KF, .one, KF, KF, KF, KF, KI, KF, .bool] [.flt .f32 x, S, .flt .f32 a, .flt .f32 b, .flt .f32 c, .flt .f32 wt, .int .i64 t, .flt .f32 g, .bool (wH x ms)] := kL
 refine rD 0 0 [(.call 34 [.agg [nF 0, n1 1]], nB 8)] [] [(0, .agg [nF 0, n1 1]), (1, .agg [nF 2, nF 3, nF 4]), (2, nF 5), (3, nI 6), (4, nF 7)] q1 (.cons (qG (args := [.agg [.flt .f32 x, S]]) (dL q1) (dE q1) (fun H9 hk => qCz H9 x hx S ms hr (hS.grew (Grew.trans (Grew.refl _) (hk.grew (Nat.le_refl _)))) (qMb mxms))) .nil) (.cons (t := 0) rfl (.cons (t := 1) rfl (.cons (t := 2) rfl (.cons (t := 3) rfl (.cons (t := 4) rfl .nil))))) ?_
 refine bV kr ?_ ?_
 ·intro vs ls H2 E2 st hE
  have f3 : (wH x ms) = false := bf st 0
  have gz : Grew H H2 := (Grew.trans (Grew.refl _) (gk st))
  have hc : obV x ms a b c wt t g = ((some 0), [], [.int .i32 0, .int .i32 0, .int .i32 0], 1) := by
   unfold obV; rw [if_neg (by rw [f3]; decide)]
  exact re st hE (.tuple [.agg [.flt .f32 (some 0), .nilslice], .agg [.int .i32 0, .int .i32 0, .int .i32 0], .int .i64 1]) gz.next (by rw [hc]; exact ⟨gz, _, rfl, (.nil rfl), FreshS.nil⟩)
 ·intro vs ls H4 E4 st hE
  have f5 : (wH x ms) = true := bf st 0
  obtain ⟨p6, e7, r8, n9⟩ := pO st hE 10 2 [.flt .f32 (some 0), .nilslice]
  have op6 : H.next <= p6 := Nat.le_trans (Nat.le_refl _) (oM n9)
  obtain ⟨p10, e11, r12, n13⟩ := pO st hE 11 3 [.int .i32 0, .int .i32 0, .int .i32 0]
  have op10 : H.next <= p10 := Nat.le_trans (Nat.le_refl _) (oM n13)
  have ne14 := pn st hE 10 2 11 3 [lF, lN] e7 e11
  have b15 := eo st hE 23 (.agg [.flt .f32 x, S])
  have b16 := eo st hE 24 (.agg [.flt .f32 a, .flt .f32 b, .flt .f32 c])
  have b17 := eo st hE 25 (.flt .f32 wt)
  have b18 := eo st hE 26 (.int .i64 t)
  have b19 := eo st hE 27 (.flt .f32 g)
  have B1 := es st hE [(23, .agg [.flt .f32 x, S]), (24, .agg [.flt .f32 a, .flt .f32 b, .flt .f32 c]), (25, .flt .f32 wt), (26, .int .i64 t), (27, .flt .f32 g)]
  have g20 : Grew H H4 := (gk st)
  have g21 : Grew H H4 := Grew.trans (Grew.refl _) g20
  refine jD (d := (some 28)) (f := 45) (args := [.tmp 23, .tmp 24, .tmp 25, .tmp 26, .tmp 27]) kr (R := fun z H' => Grew H4 H' /\ ∃ S', z = .tuple [.agg [.flt .f32 y9, S'], .agg [.int .i32 e0, .int .i32 e1, .int .i32 e2], .bool k9, .int .i64 d9] /\ SlF H' 9 L9 S' /\ FreshS H4.next S') ?_ ?_
  ·show qJ _ _ [E4 23, E4 24, E4 25, E4 26, E4 27] _ _
   rw [b15, b16, b17, b18, b19]
   exact (by have h9 := qJA H4 x hx ms hr (S) (hS.grew g21) mxms (qAZ hr f5) a b c ha hb hc wt hwt t g hg; rw [hX9, hL9, hC9, hP9, hK9] at h9; exact h9)
  rintro z H22 ⟨gH22, S23, rfl, sS23, fS23⟩
  have ne24 : ApartL (S23) p6 := fS23.apartL (H4.lt_of_get r8)
  have ne25 : ApartL (S23) p10 := fS23.apartL (H4.lt_of_get r12)
  have fr26 : FreshS H.next (S23) := fS23.mono g21.next
  have g27 := Grew.trans g21 gH22
  have r28 := gH22.at r8
  have r29 := gH22.at r12
  have q30 := q1.app (kL : KdsL [.one, KF, K2, K2, K2, .bool, KI] [S23, .flt .f32 y9, .int .i32 e0, .int .i32 e1, .int .i32 e2, .bool k9, .int .i64 d9])
  refine rC 2 0 [wf p6 [lF, lN], wf p10 [l0, l0, l0]] [(23, .agg [nF 0, n1 1]), (24, .agg [nF 2, nF 3, nF 4]), (25, nF 5), (26, nI 6), (27, nF 7), (10, .ptr 0 0), (11, .ptr 1 0), (28, .tup [.agg [nF 10, n1 9], .agg [n2 11, n2 12, n2 13], nB 14, nI 15])] q30 (sc (sp B1) (.cons (qC rfl e7) (.cons (qC rfl e11) (.cons qB .nil)))) ?_
  refine zE kr fun vs ls H31 E31 st hE => ?_
  obtain ⟨p32, e33, r34, n35⟩ := pO st hE 13 2 [.flt .f32 y9, S23]
  have op32 : H.next <= p32 := Nat.le_trans g27.next (oM n35)
  obtain ⟨p36, e37, r38, n39⟩ := pO st hE 14 3 [.int .i32 e0, .int .i32 e1, .int .i32 e2]
  have op36 : H.next <= p36 := Nat.le_trans g27.next (oM n39)
  have ne40 := pn st hE 13 2 14 3 [.nd 10 (.flt .f32), .nd 9 .one] e33 e37
  have ne41 := apn r28 (oM n35)
  have ne42 := apn r29 (oM n35)
  have ne43 : ApartL (S23) p32 := sS23.apart_new (oM n35)
  have ne44 := apn r28 (oM n39)
  have ne45 := apn r29 (oM n39)
  have ne46 : ApartL (S23) p36 := sS23.apart_new (oM n39)
  have B2 := es st hE [(10, .ptr p6 0), (11, .ptr p10 0), (35, .int .i64 d9)]
  have g50 : Grew H22 H31 := (gk st)
  have g51 := Grew.trans g27 g50
  have r52 := g50.at r28
  have r53 := g50.at r29
  have s54 := sS23.grew g50
  refine xW kr ?_ ?_
  ·refine rC 4 0 [wf p6 [lF, lN], wf p10 [l0, l0, l0], wf p32 [nF 10, n1 9], wf p36 [n2 11, n2 12, n2 13]] [(10, .ptr 0 0), (11, .ptr 1 0), (35, nI 15), (13, .ptr 2 0), (14, .ptr 3 0)] q30 (sc B2 (.cons e33 (.cons e37 .nil))) ?_
   refine zE kr fun vs ls H56 E56 st hE => ?_
   have B3 := es st hE [(14, .ptr p36 0), (10, .ptr p6 0), (33, .agg [.flt .f32 y9, S23]), (11, .ptr p10 0), (35, .int .i64 d9)]
   have g62 : Grew H31 H56 := (gk st)
   have g63 := Grew.trans g51 g62
   have r64 := g62.at r52
   have r65 := g62.at r53
   have r67 := g62.at r38
   have s68 := s54.grew g62
   refine xW kr ?_ ?_
   ·refine rC 1 0 [wf p36 [n2 11, n2 12, n2 13], ⟨p6, 0, [lF, lN], true⟩, ⟨p10, 0, [l0, l0, l0], true⟩] [(14, .ptr 0 0), (10, .ptr 1 0), (33, .agg [nF 10, n1 9]), (11, .ptr 2 0), (35, nI 15)] q30 B3 ?_
    refine zE kr fun vs ls H70 E70 st hE => ?_
    have gz : Grew H H70 := (qI g63 (st.inn.kept) ⟨op6, ⟨op10, trivial⟩⟩)
    have hc : obV x ms a b c wt t g = (y9, L9, [.int .i32 e0, .int .i32 e1, .int .i32 e2], d9) := by
     unfold obV; rw [if_pos f5]
     rw [hX9, hL9, hP9, hC9]
    exact re st hE (.tuple [.agg [.flt .f32 y9, S23], .agg [.int .i32 e0, .int .i32 e1, .int .i32 e2], .int .i64 d9]) gz.next (by rw [hc]; exact ⟨gz, _, rfl, ((s68.keep st.inn.kept ⟨by assumption, ⟨by assumption, trivial⟩⟩)).toW, fr26⟩)
   ·refine rC 1 0 [wf p36 [n2 11, n2 12, n2 13], ⟨p6, 0, [lF, lN], true⟩, ⟨p10, 0, [l0, l0, l0], true⟩] [(14, .ptr 0 0), (10, .ptr 1 0), (33, .agg [nF 10, n1 9]), (11, .ptr 2 0), (35, nI 15)] q30 B3 ?_
    refine zE kr fun vs ls H72 E72 st hE => ?_
    have gz : Grew H H72 := (qI g63 (st.inn.kept) ⟨op6, ⟨op10, trivial⟩⟩)
    have hc : obV x ms a b c wt t g = (y9, L9, [.int .i32 e0, .int .i32 e1, .int .i32 e2], d9) := by
     unfold obV; rw [if_pos f5]
     rw [hX9, hL9, hP9, hC9]
    exact re st hE (.tuple [.agg [.flt .f32 y9, S23], .agg [.int .i32 e0, .int .i32 e1, .int .i32 e2], .int .i64 d9]) gz.next (by rw [hc]; exact ⟨gz, _, rfl, ((s68.keep st.inn.kept ⟨by assumption, ⟨by assumption, trivial⟩⟩)).toW, fr26⟩)
  ·refine rC 2 0 [wf p32 [nF 10, n1 9], wf p36 [n2 11, n2 12, n2 13], ⟨p6, 0, [lF, lN], true⟩, ⟨p10, 0, [l0, l0, l0], true⟩] [(10, .ptr 2 0), (11, .ptr 3 0), (35, nI 15), (13, .ptr 0 0), (14, .ptr 1 0)] q30 (sc B2 (.cons e33 (.cons e37 .nil))) ?_
   refine zE kr fun vs ls H74 E74 st hE => ?_
   have gz : Grew H H74 := (qI g51 (st.inn.kept) ⟨op6, ⟨op10, trivial⟩⟩)
   have hc : obV x ms a b c wt t g = (y9, L9, [.int .i32 e0, .int .i32 e1, .int .i32 e2], d9) := by
    unfold obV; rw [if_pos f5]
    rw [hX9, hL9, hP9, hC9]
   exact re st hE (.tuple [.agg [.flt .f32 y9, S23], .agg [.int .i32 e0, .int .i32 e1, .int .i32 e2], .int .i64 d9]) gz.next (by rw [hc]; exact ⟨gz, _, rfl, ((s54.keep st.inn.kept ⟨by assumption, ⟨by assumption, trivial⟩⟩)).toW, fr26⟩)
theorem qAr (H : AHeap) (x : ON) (hx : fOk .f32 x) (ms : LL) (hr : xY KM ms) (S : AV) (hS : SlL H 9 ms S) (mxms : ms.length <= 1048576) (a b c : ON) (ha : fOk .f32 a) (hb : fOk .f32 b) (hc : fOk .f32 c) (wt : ON) (hwt : fOk .f32 wt) (t : Int) (g : ON) (hg : fOk .f32 g) : qJ Try.prog 17 [.agg [.flt .f32 x, S], .agg [.flt .f32 a, .flt .f32 b, .flt .f32 c], .flt .f32 wt, .int .i64 t, .flt .f32 g] H fun r H' => Grew H H' /\ ∃ S', r = .tuple [.agg [.flt .f32 (obV x ms a b c wt t g).1, S'], .agg (obV x ms a b c wt t g).2.2.1, .int .i64 (obV x ms a b c wt t g).2.2.2] /\ SlW H' 9 (obV x ms a b c wt t g).2.1 S' /\ FreshS H.next S' := by
 obtain ⟨y9, hX9⟩ : ∃ z, qKN x ms a b c wt t g = z := ⟨_, rfl⟩
 obtain ⟨L9, hL9⟩ : ∃ z, qFQ x ms a b c wt t g = z := ⟨_, rfl⟩
 obtain ⟨k9, hK9⟩ : ∃ z, qHA x ms a b c wt t g = z := ⟨_, rfl⟩
 obtain ⟨d9, hC9⟩ : ∃ z, vW x ms a b c wt t g = z := ⟨_, rfl⟩
 obtain ⟨e0, e1, e2, hP9⟩ := qCP x ms a b c wt t g
 have hy9 : fOk .f32 y9 := by rw [<- hX9]; exact qGR hx
 refine qH dN (by simp) ?_
 have q1 : KdsL [KF, .one, KF, KF, KF, KF, KI, KF] [.flt .f32 x, S, .flt .f32 a, .flt .f32 b, .flt .f32 c, .flt .f32 wt, .int .i64 t, .flt .f32 g] := kL
 refine rC 0 0 [] [(0, .agg [nF 0, n1 1]), (1, .agg [nF 2, nF 3, nF 4]), (2, nF 5), (3, nI 6), (4, nF 7)] q1 (.cons (t := 0) rfl (.cons (t := 1) rfl (.cons (t := 2) rfl (.cons (t := 3) rfl (.cons (t := 4) rfl .nil))))) ?_
 refine zE kr fun vs ls H2 E2 st hE => ?_
 obtain ⟨p3, e4, r5, n6⟩ := pO st hE 5 0 [.flt .f32 x, S]
 have op3 : H.next <= p3 := Nat.le_trans (Nat.le_refl _) (oM n6)
 obtain ⟨p7, e8, r9, n10⟩ := pO st hE 10 2 [.flt .f32 (some 0), .nilslice]
 have op7 : H.next <= p7 := Nat.le_trans (Nat.le_refl _) (oM n10)
 obtain ⟨p11, e12, r13, n14⟩ := pO st hE 11 3 [.int .i32 0, .int .i32 0, .int .i32 0]
 have op11 : H.next <= p11 := Nat.le_trans (Nat.le_refl _) (oM n14)
 obtain ⟨p15, e16, r17, n18⟩ := pO st hE 6 1 [.flt .f32 a, .flt .f32 b, .flt .f32 c]
 have op15 : H.next <= p15 := Nat.le_trans (Nat.le_refl _) (oM n18)
 have ne19 := pn st hE 5 0 10 2 [.nd 0 (.flt .f32), .nd 1 .one] e4 e8
 have ne20 := pn st hE 5 0 11 3 [.nd 0 (.flt .f32), .nd 1 .one] e4 e12
 have ne21 := pn st hE 5 0 6 1 [.nd 0 (.flt .f32), .nd 1 .one] e4 e16
 have ne22 := pn st hE 10 2 11 3 [lF, lN] e8 e12
 have ne23 := pn st hE 10 2 6 1 [lF, lN] e8 e16
 have ne24 := pn st hE 11 3 6 1 [l0, l0, l0] e12 e16
 have B1 := es st hE [(2, .flt .f32 wt), (3, .int .i64 t), (4, .flt .f32 g)]
 have g28 : Grew H H2 := (gk st)
 have g29 : Grew H H2 := Grew.trans (Grew.refl _) g28
 refine jD (d := (some 17)) (f := 28) (args := [.tmp 5]) kr (R := fun z H' => z = .bool (wH x ms) /\ H' = H2) ?_ ?_
 ·show qJ _ _ [E2 5] _ _
  rw [e4]
  exact qMI H2 p3 x hx S true ms hr r5 (hS.grew g29) (qMb mxms)
 rintro z H2 ⟨rfl, rfl⟩
 have q30 := q1.app (kL : KdsL [.bool] [.bool (wH x ms)])
 refine rC 2 0 [wf p3 [nF 0, n1 1], wf p15 [nF 2, nF 3, nF 4], ⟨p7, 0, [lF, lN], true⟩, ⟨p11, 0, [l0, l0, l0], true⟩] [(2, nF 5), (3, nI 6), (4, nF 7), (5, .ptr 0 0), (10, .ptr 2 0), (11, .ptr 3 0), (6, .ptr 1 0), (17, nB 8)] q30 (sc (sp B1) (.cons (qC rfl e4) (.cons (qC rfl e8) (.cons (qC rfl e12) (.cons (qC rfl e16) (.cons qB .nil)))))) ?_
 refine bV kr ?_ ?_
 ·intro vs ls H31 E31 st hE
  have f32 : (wH x ms) = false := bf st 0
  have gz : Grew H H31 := (qI g29 (st.inn.kept) ⟨op7, ⟨op11, trivial⟩⟩)
  have hc : obV x ms a b c wt t g = ((some 0), [], [.int .i32 0, .int .i32 0, .int .i32 0], 1) := by
   unfold obV; rw [if_neg (by rw [f32]; decide)]
  exact re st hE (.tuple [.agg [.flt .f32 (some 0), .nilslice], .agg [.int .i32 0, .int .i32 0, .int .i32 0], .int .i64 1]) gz.next (by rw [hc]; exact ⟨gz, _, rfl, (.nil rfl), FreshS.nil⟩)
 ·intro vs ls H33 E33 st hE
  have f34 : (wH x ms) = true := bf st 0
  have b35 := eo st hE 5 (.ptr p3 0)
  have b36 := eo st hE 22 (.agg [.flt .f32 a, .flt .f32 b, .flt .f32 c])
  have b37 := eo st hE 23 (.flt .f32 wt)
  have b38 := eo st hE 24 (.int .i64 t)
  have b39 := eo st hE 25 (.flt .f32 g)
  have B2 := es st hE [(5, .ptr p3 0), (22, .agg [.flt .f32 a, .flt .f32 b, .flt .f32 c]), (23, .flt .f32 wt), (24, .int .i64 t), (25, .flt .f32 g), (10, .ptr p7 0), (11, .ptr p11 0)]
  have g42 : Grew H2 H33 := (gk st)
  have g43 := Grew.trans g29 g42
  have r44 := g42.at r5
  have r46 := g42.at r9
  have r47 := g42.at r13
  refine jD (d := (some 26)) (f := 44) (args := [.tmp 5, .tmp 22, .tmp 23, .tmp 24, .tmp 25]) kr (R := fun z H' => Grew H33 H' /\ ∃ S' g0 g1 g2 kn, z = .tuple [.agg [.flt .f32 y9, S'], .agg [.int .i32 g0, .int .i32 g1, .int .i32 g2], .bool kn, .int .i64 d9] /\ SlF H' 9 L9 S' /\ FreshS H33.next S' /\ (d9 = 0 -> qGQ x ms a b c wt t g = [.int .i32 g0, .int .i32 g1, .int .i32 g2] /\ kn = qHA x ms a b c wt t g)) ?_ ?_
  ·show qJ _ _ [E33 5, E33 22, E33 23, E33 24, E33 25] _ _
   rw [b35, b36, b37, b38, b39]
   exact (by have h9 := qJy H33 x hx ms hr (S) (hS.grew g43) mxms (qAZ hr f34) a b c ha hb hc wt hwt t g hg p3 r44; rw [hX9, hL9, hC9] at h9; exact h9)
  rintro z H48 ⟨gH48, S49, g0S49, g1S49, g2S49, knS49, rfl, sS49, fS49, hz9S49⟩
  have ne50 : ApartL (S49) p3 := fS49.apartL (H33.lt_of_get r44)
  have ne51 : ApartL (S49) p7 := fS49.apartL (H33.lt_of_get r46)
  have ne52 : ApartL (S49) p11 := fS49.apartL (H33.lt_of_get r47)
  have fr53 : FreshS H.next (S49) := fS49.mono g43.next
  have g54 := Grew.trans g43 gH48
  have r55 := gH48.at r44
  have r56 := gH48.at r46
  have r57 := gH48.at r47
  have q58 := q30.app (kL : KdsL [.one, KF, K2, K2, K2, .bool, KI] [S49, .flt .f32 y9, .int .i32 g0S49, .int .i32 g1S49, .int .i32 g2S49, .bool knS49, .int .i64 d9])
  refine rC 1 0 [wf p3 [nF 0, n1 1], ⟨p7, 0, [lF, lN], true⟩, ⟨p11, 0, [l0, l0, l0], true⟩] [(5, .ptr 0 0), (22, .agg [nF 2, nF 3, nF 4]), (23, nF 5), (24, nI 6), (25, nF 7), (10, .ptr 1 0), (11, .ptr 2 0), (26, .tup [.agg [nF 10, n1 9], .agg [n2 11, n2 12, n2 13], nB 14, nI 15])] q58 (sc (sp B2) (.cons qB .nil)) ?_
  refine bV kr ?_ ?_
  ·intro vs ls H59 E59 st hE
   have f60 : ¬ (d9 = 0) := df st 0
   have gz : Grew H H59 := (qI g54 (st.inn.kept) ⟨op7, ⟨op11, trivial⟩⟩)
   have hc : obV x ms a b c wt t g = ((some 0), [], [.int .i32 0, .int .i32 0, .int .i32 0], d9) := by
    unfold obV; rw [if_pos f34]
    obtain ⟨_, eX, eP, eK, eL⟩ := vC hC9 f60
    rw [eX, eL, eP, hC9]
   exact re st hE (.tuple [.agg [.flt .f32 (some 0), .nilslice], .agg [.int .i32 0, .int .i32 0, .int .i32 0], .int .i64 d9]) gz.next (by rw [hc]; exact ⟨gz, _, rfl, (.nil rfl), FreshS.nil⟩)
  ·intro vs ls H61 E61 st hE
   have f62 : d9 = 0 := dt st 0
   obtain ⟨p63, e64, r65, n66⟩ := pO st hE 13 3 [.flt .f32 y9, S49]
   have op63 : H.next <= p63 := Nat.le_trans g54.next (oM n66)
   obtain ⟨p67, e68, r69, n70⟩ := pO st hE 14 4 [.int .i32 g0S49, .int .i32 g1S49, .int .i32 g2S49]
   have op67 : H.next <= p67 := Nat.le_trans g54.next (oM n70)
   have ne71 := pn st hE 13 3 14 4 [.nd 10 (.flt .f32), .nd 9 .one] e64 e68
   have ne72 := apn r55 (oM n66)
   have ne73 := apn r56 (oM n66)
   have ne74 := apn r57 (oM n66)
   have ne75 : ApartL (S49) p63 := sS49.apart_new (oM n66)
   have ne76 := apn r55 (oM n70)
   have ne77 := apn r56 (oM n70)
   have ne78 := apn r57 (oM n70)
   have ne79 : ApartL (S49) p67 := sS49.apart_new (oM n70)
   have B3 := es st hE [(10, .ptr p7 0), (11, .ptr p11 0)]
   have g82 : Grew H48 H61 := (gk st)
   have g83 := Grew.trans g54 g82
   have r85 := g82.at r56
   have r86 := g82.at r57
   have s87 := sS49.grew g82
   refine xW kr ?_ ?_
   ·refine rC 2 0 [wf p63 [nF 10, n1 9], wf p67 [n2 11, n2 12, n2 13], ⟨p7, 0, [lF, lN], true⟩, ⟨p11, 0, [l0, l0, l0], true⟩] [(10, .ptr 2 0), (11, .ptr 3 0), (13, .ptr 0 0), (14, .ptr 1 0)] q58 (sc B3 (.cons e64 (.cons e68 .nil))) ?_
    refine zE kr fun vs ls H89 E89 st hE => ?_
    have B4 := es st hE [(14, .ptr p67 0), (10, .ptr p7 0), (36, .agg [.flt .f32 y9, S49]), (11, .ptr p11 0)]
    have g94 : Grew H61 H89 := (gk st)
    have g95 := Grew.trans g83 g94
    have r97 := g94.at r69
    have r98 := g94.at r85
    have r99 := g94.at r86
    have s100 := s87.grew g94
    refine xW kr ?_ ?_
    ·refine rC 1 0 [wf p67 [n2 11, n2 12, n2 13], ⟨p7, 0, [lF, lN], true⟩, ⟨p11, 0, [l0, l0, l0], true⟩] [(14, .ptr 0 0), (10, .ptr 1 0), (36, .agg [nF 10, n1 9]), (11, .ptr 2 0)] q58 B4 ?_
     refine zE kr fun vs ls H102 E102 st hE => ?_
     have gz : Grew H H102 := (qI g95 (st.inn.kept) ⟨op7, ⟨op11, trivial⟩⟩)
     have hc : obV x ms a b c wt t g = (y9, L9, [.int .i32 g0S49, .int .i32 g1S49, .int .i32 g2S49], 0) := by
      unfold obV; rw [if_pos f34]
      rw [hX9, hL9, (hz9S49 f62).1, hC9, f62]
     exact re st hE (.tuple [.agg [.flt .f32 y9, S49], .agg [.int .i32 g0S49, .int .i32 g1S49, .int .i32 g2S49], .int .i64 0]) gz.next (by rw [hc]; exact ⟨gz, _, rfl, ((s100.keep st.inn.kept ⟨by assumption, ⟨by assumption, trivial⟩⟩)).toW, fr53⟩)
    ·refine rC 1 0 [wf p67 [n2 11, n2 12, n2 13], ⟨p7, 0, [lF, lN], true⟩, ⟨p11, 0, [l0, l0, l0], true⟩] [(14, .ptr 0 0), (10, .ptr 1 0), (36, .agg [nF 10, n1 9]), (11, .ptr 2 0)] q58 B4 ?_
     refine zE kr fun vs ls H104 E104 st hE => ?_
     have gz : Grew H H104 := (qI g95 (st.inn.kept) ⟨op7, ⟨op11, trivial⟩⟩)
     have hc : obV x ms a b c wt t g = (y9, L9, [.int .i32 g0S49, .int .i32 g1S49, .int .i32 g2S49], 0) := by
      unfold obV; rw [if_pos f34]
      rw [hX9, hL9, (hz9S49 f62).1, hC9, f62]
     exact re st hE (.tuple [.agg [.flt .f32 y9, S49], .agg [.int .i32 g0S49, .int .i32 g1S49, .int .i32 g2S49], .int .i64 0]) gz.next (by rw [hc]; exact ⟨gz, _, rfl, ((s100.keep st.inn.kept ⟨by assumption, ⟨by assumption, trivial⟩⟩)).toW, fr53⟩)
   ·refine rC 2 0 [wf p63 [nF 10, n1 9], wf p67 [n2 11, n2 12, n2 13], ⟨p7, 0, [lF, lN], true⟩, ⟨p11, 0, [l0, l0, l0], true⟩] [(10, .ptr 2 0), (11, .ptr 3 0), (13, .ptr 0 0), (14, .ptr 1 0)] q58 (sc B3 (.cons e64 (.cons e68 .nil))) ?_
    refine zE kr fun vs ls H106 E106 st hE => ?_
    have gz : Grew H H106 := (qI g83 (st.inn.kept) ⟨op7, ⟨op11, trivial⟩⟩)
    have hc : obV x ms a b c wt t g = (y9, L9, [.int .i32 g0S49, .int .i32 g1S49, .int .i32 g2S49], 0) := by
     unfold obV; rw [if_pos f34]
     rw [hX9, hL9, (hz9S49 f62).1, hC9, f62]
    exact re st hE (.tuple [.agg [.flt .f32 y9, S49], .agg [.int .i32 g0S49, .int .i32 g1S49, .int .i32 g2S49], .int .i64 0]) gz.next (by rw [hc]; exact ⟨gz, _, rfl, ((s87.keep st.inn.kept ⟨by assumption, ⟨by assumption, trivial⟩⟩)).toW, fr53⟩)
theorem qGD (a b c : ON) (ha : fOk .f32 a) (hb : fOk .f32 b) (hc : fOk .f32 c) (H : AHeap) : qQ Try.prog 18 [.agg [.flt .f32 a, .flt .f32 b, .flt .f32 c]] H (.agg [.flt .f32 a, .flt .f32 b, .flt .f32 c]) := by
 refine qH qBz (by simp) ?_
 have q1 : KdsL [KF, KF, KF] [.flt .f32 a, .flt .f32 b, .flt .f32 c] := kL
 refine rC 0 10 [] [(0, .agg [nF 0, nF 1, nF 2])] q1 (.cons (t := 0) rfl .nil) ?_
 refine zE kr fun vs ls H2 E2 st hE => ?_
 refine rf st hE (.agg [.flt .f32 a, .flt .f32 b, .flt .f32 c]) (Grew.trans (Grew.refl _) (gk st)) ?_
 rfl
theorem qMc {x y : ON} {ms L : LL} {a b c wt g : ON} {t d : Int} {P : List AV} (h : obV x ms a b c wt t g = (y, L, P, d)) (hx : fOk .f32 x) (hr : xY KM ms) (ha : fOk .f32 a) (hb : fOk .f32 b) (hc : fOk .f32 c) (hw : fOk .f32 wt) : fOk .f32 y /\ xY KM L /\ L.length <= 1048576 /\ ∃ e0 e1 e2 : Int, P = [.int .i32 e0, .int .i32 e1, .int .i32 e2] := by
 unfold obV at h
 split at h
 ·rename_i ho
  cases h
  have h9 := qKn (x := x) (t := t) (g := g) (qAZ hr ho) ha hb hc hw
  exact ⟨qGR hx, h9.1, Nat.le_trans h9.2 (by decide), qCP x ms a b c wt t g⟩
 ·cases h; exact ⟨qOR, .nil, by decide, _, _, _, rfl⟩
theorem kT (H : AHeap) (vs : List AV) (h : qDT H [(true, [.flt .f32, .sl [.int .i32, .int .i32, .int .i32, .flt .f32, .flt .f32, .flt .f32, .flt .f32, .int .i64, .int .i64]]), (true, [.flt .f32, .flt .f32, .flt .f32]), (false, [.flt .f32]), (false, [.int .i64]), (false, [.flt .f32])] vs) : qJ Try.prog 5 vs H fun r _ => r = .bool true := by
 match vs, h with
 | [q0, q1, q2, q3, q4], h =>
 obtain ⟨x, ms, S, rfl, hx, hr, hS, hmx⟩ := qNQ h.1
 obtain ⟨a, b, c, rfl, ha, hb, hc⟩ := qOj h.2.1
 obtain ⟨s2, z2, f2⟩ := h.2.2.1
 cases z2
 cases f2
 rename_i wt hwt
 obtain ⟨s3, z3, f3⟩ := h.2.2.2.1
 cases z3
 cases f3
 rename_i t _
 obtain ⟨s4, z4, f4⟩ := h.2.2.2.2.1
 cases z4
 cases f4
 rename_i g hg
 clear h
 obtain ⟨y, L, P, d, hV⟩ : ∃ y L P d, obV x ms a b c wt t g = (y, L, P, d) := ⟨_, _, _, _, rfl⟩
 obtain ⟨hy, _, _, e0, e1, e2, rfl⟩ := qMc hV hx hr ha hb hc hwt
 refine qH xG (by simp) ?_
 obtain ⟨q1, kq1, hq1⟩ : ∃ r : Int, (∀ H9, Grew H H9 -> qQ Try.prog 7 [.agg [.flt .f32 x, S], .int .i64 1048576] H9 (.int .i64 r)) /\ (r < 0 \/ r = 1048576 - ms.length) := ⟨_, fun H9 hk => qGB H9 x hx ms S (hS.grew (Grew.trans (Grew.refl _) hk)) 1048576 om om hmx, by split <;> omega⟩
 have q2 : KdsL [KF, .one, KF, KF, KF, KF, KI, KF, KF, K2, K2, K2, KI, KI] [.flt .f32 x, S, .flt .f32 a, .flt .f32 b, .flt .f32 c, .flt .f32 wt, .int .i64 t, .flt .f32 g, .flt .f32 y, .int .i32 e0, .int .i32 e1, .int .i32 e2, .int .i64 d, .int .i64 q1] := kL
 refine rD 0 4 [(.call 7 [.agg [nF 0, n1 1], .lit (.int .i64 1048576)], nI 13)] [] [(0, .agg [nF 0, n1 1]), (1, .agg [nF 2, nF 3, nF 4]), (2, nF 5), (3, nI 6), (4, nF 7)] q2 (.cons (qG (args := [.agg [.flt .f32 x, S], .int .i64 1048576]) (dL q2) (dE q2) (fun H9 hk => kq1 H9 (hk.grew (Nat.le_refl _)))) .nil) (.cons (t := 0) rfl (.cons (t := 1) rfl (.cons (t := 2) rfl (.cons (t := 3) rfl (.cons (t := 4) rfl .nil))))) ?_
 refine bV kr ?_ ?_
 ·intro vs ls H3 E3 st hE
  have f4 : q1 < 0 := dt st 0
  exact jG kr (zR st.inn hE (.inr rfl) (a := .bool true) kr (Nat.le_trans (Nat.le_refl _) st.kept.1) rfl)
 ·intro vs ls H5 E5 st hE
  have f6 : ¬ (q1 < 0) := df st 0
  have mxms : ms.length <= 1048576 := by omega
  obtain ⟨_, hL, mxL, _⟩ := qMc hV hx hr ha hb hc hwt
  obtain ⟨p7, e8, r9, n10⟩ := pO st hE 12 2 [.flt .f32 (some 0), .nilslice]
  have op7 : H.next <= p7 := Nat.le_trans (Nat.le_refl _) (oM n10)
  obtain ⟨p11, e12, r13, n14⟩ := pO st hE 13 3 [.int .i32 0, .int .i32 0, .int .i32 0]
  have op11 : H.next <= p11 := Nat.le_trans (Nat.le_refl _) (oM n14)
  obtain ⟨p15, e16, r17, n18⟩ := pO st hE 5 0 [.flt .f32 x, S]
  have op15 : H.next <= p15 := Nat.le_trans (Nat.le_refl _) (oM n18)
  obtain ⟨p19, e20, r21, n22⟩ := pO st hE 6 1 [.flt .f32 a, .flt .f32 b, .flt .f32 c]
  have op19 : H.next <= p19 := Nat.le_trans (Nat.le_refl _) (oM n22)
  have ne23 := pn st hE 12 2 13 3 [lF, lN] e8 e12
  have ne24 := pn st hE 12 2 5 0 [lF, lN] e8 e16
  have ne25 := pn st hE 12 2 6 1 [lF, lN] e8 e20
  have ne26 := pn st hE 13 3 5 0 [l0, l0, l0] e12 e16
  have ne27 := pn st hE 13 3 6 1 [l0, l0, l0] e12 e20
  have ne28 := pn st hE 5 0 6 1 [.nd 0 (.flt .f32), .nd 1 .one] e16 e20
  have b29 := eo st hE 31 (.agg [.flt .f32 x, S])
  have B1 := es st hE [(31, .agg [.flt .f32 x, S]), (33, .agg [.flt .f32 a, .flt .f32 b, .flt .f32 c]), (35, .flt .f32 wt), (36, .int .i64 t), (37, .flt .f32 g), (2, .flt .f32 wt), (3, .int .i64 t), (4, .flt .f32 g)]
  have g37 : Grew H H5 := (gk st)
  have g38 : Grew H H5 := Grew.trans (Grew.refl _) g37
  refine tB (free := false) (d := (some 32)) (f := 9) (args := [.tmp 31]) kr (R := fun z H' => Grew H5 H' /\ ∃ S', z = .agg [.flt .f32 x, S'] /\ SlW H' 9 ms S' /\ FreshS H5.next S') ?_ ?_
  ·show qJ _ _ [E5 31] _ _
   rw [b29]
   exact mG H5 x hx ms hr S (hS.grew g38) mxms
  rintro z H40 ⟨gS39, S39, rfl, sS39, fS39⟩
  refine ⟨gS39, ?_⟩
  have ne41 : ApartL (S39) p7 := fS39.apartL (H5.lt_of_get r9)
  have ne42 : ApartL (S39) p11 := fS39.apartL (H5.lt_of_get r13)
  have ne43 : ApartL (S39) p15 := fS39.apartL (H5.lt_of_get r17)
  have ne44 : ApartL (S39) p19 := fS39.apartL (H5.lt_of_get r21)
  have fr45 : FreshS H.next (S39) := fS39.mono g38.next
  have g46 := Grew.trans g38 gS39
  have r47 := gS39.at r9
  have r48 := gS39.at r13
  have r49 := gS39.at r17
  have r50 := gS39.at r21
  have q51 := q2.app (kL : KdsL [.one] [S39])
  refine rD 4 4 [(.call 18 [.agg [nF 2, nF 3, nF 4]], .agg [nF 2, nF 3, nF 4])] [wf p7 [lF, lN], wf p11 [l0, l0, l0], wf p15 [nF 0, n1 1], wf p19 [nF 2, nF 3, nF 4]] [(31, .agg [nF 0, n1 1]), (33, .agg [nF 2, nF 3, nF 4]), (35, nF 5), (36, nI 6), (37, nF 7), (2, nF 5), (3, nI 6), (4, nF 7), (12, .ptr 0 0), (13, .ptr 1 0), (5, .ptr 2 0), (6, .ptr 3 0), (32, .agg [nF 0, n1 14])] q51 (.cons (qG (args := [.agg [.flt .f32 a, .flt .f32 b, .flt .f32 c]]) (dL q51) (dE q51) (fun H9 hk => qGD a b c ha hb hc H9)) .nil) (sc (sp B1) (.cons (qC rfl e8) (.cons (qC rfl e12) (.cons (qC rfl e16) (.cons (qC rfl e20) (.cons qB .nil)))))) ?_
  refine zE kr fun vs ls H52 E52 st hE => ?_
  have b53 := eo st hE 32 (.agg [.flt .f32 x, S39])
  have b54 := eo st hE 34 (.agg [.flt .f32 a, .flt .f32 b, .flt .f32 c])
  have b55 := eo st hE 35 (.flt .f32 wt)
  have b56 := eo st hE 36 (.int .i64 t)
  have b57 := eo st hE 37 (.flt .f32 g)
  have B2 := es st hE [(32, .agg [.flt .f32 x, S39]), (34, .agg [.flt .f32 a, .flt .f32 b, .flt .f32 c]), (35, .flt .f32 wt), (36, .int .i64 t), (37, .flt .f32 g), (12, .ptr p7 0), (13, .ptr p11 0), (5, .ptr p15 0), (6, .ptr p19 0), (2, .flt .f32 wt), (3, .int .i64 t), (4, .flt .f32 g)]
  have g65 : Grew H40 H52 := (gk st)
  have g66 := Grew.trans g46 g65
  have r67 := g65.at r47
  have r68 := g65.at r48
  have r69 := g65.at r49
  have r70 := g65.at r50
  have s71 := sS39.grew g65
  refine tB (free := false) (d := (some 38)) (f := 17) (args := [.tmp 32, .tmp 34, .tmp 35, .tmp 36, .tmp 37]) kr (R := fun z H' => Grew H52 H' /\ ∃ S', z = .tuple [.agg [.flt .f32 y, S'], .agg [.int .i32 e0, .int .i32 e1, .int .i32 e2], .int .i64 d] /\ SlW H' 9 L S' /\ FreshS H52.next S') ?_ ?_
  ·show qJ _ _ [E52 32, E52 34, E52 35, E52 36, E52 37] _ _
   rw [b53, b54, b55, b56, b57]
   exact (by have h9 := qAr H52 x hx ms hr (S39) s71.toL mxms a b c ha hb hc wt hwt t g hg; rw [hV] at h9; exact h9)
  rintro z H72 ⟨gH72, S73, rfl, sS73, fS73⟩
  refine ⟨gH72, ?_⟩
  have ne74 : ApartL (S73) p7 := fS73.apartL (H52.lt_of_get r67)
  have ne75 : ApartL (S73) p11 := fS73.apartL (H52.lt_of_get r68)
  have ne76 : ApartL (S73) p15 := fS73.apartL (H52.lt_of_get r69)
  have ne77 : ApartL (S73) p19 := fS73.apartL (H52.lt_of_get r70)
  have ne78 : ApartS (S73) (S39) := fS73.apartS s71.lt
  have fr79 : FreshS H.next (S73) := fS73.mono g66.next
  have g80 := Grew.trans g66 gH72
  have r81 := gH72.at r67
  have r82 := gH72.at r68
  have r83 := gH72.at r69
  have r84 := gH72.at r70
  have s85 := s71.grew gH72
  have q86 := q51.app (kL : KdsL [.one] [S73])
  refine rC 2 4 [wf p15 [nF 0, n1 1], wf p19 [nF 2, nF 3, nF 4], ⟨p7, 0, [lF, lN], true⟩, ⟨p11, 0, [l0, l0, l0], true⟩] [(32, .agg [nF 0, n1 14]), (34, .agg [nF 2, nF 3, nF 4]), (35, nF 5), (36, nI 6), (37, nF 7), (12, .ptr 2 0), (13, .ptr 3 0), (5, .ptr 0 0), (6, .ptr 1 0), (2, nF 5), (3, nI 6), (4, nF 7), (38, .tup [.agg [nF 8, n1 15], .agg [n2 9, n2 10, n2 11], nI 12])] q86 (sc (sp B2) (.cons qB .nil)) ?_
  refine zE kr fun vs ls H87 E87 st hE => ?_
  have r88 : H87.get p7 = some (.row [.flt .f32 y, S73] true) := rW st 2
  have r89 : H87.get p11 = some (.row [.int .i32 e0, .int .i32 e1, .int .i32 e2] true) := rW st 3
  have b90 := eo st hE 42 (.agg [.flt .f32 x, S])
  have B3 := es st hE [(42, .agg [.flt .f32 x, S]), (6, .ptr p19 0), (2, .flt .f32 wt), (3, .int .i64 t), (4, .flt .f32 g), (12, .ptr p7 0), (13, .ptr p11 0), (14, .int .i64 d), (5, .ptr p15 0)]
  have g100 : Grew H H87 := qI g80 st.inn.kept ⟨op7, ⟨op11, trivial⟩⟩
  have r101 := qW st.inn.kept r83 ⟨aS, ⟨aS, trivial⟩⟩
  have r102 := qW st.inn.kept r84 ⟨aS, ⟨aS, trivial⟩⟩
  have s103 := s85.keep st.inn.kept ⟨by assumption, ⟨by assumption, trivial⟩⟩
  have s104 := sS73.keep st.inn.kept ⟨by assumption, ⟨by assumption, trivial⟩⟩
  refine jD (d := (some 43)) (f := 9) (args := [.tmp 42]) kr (R := fun z H' => Grew H87 H' /\ ∃ S', z = .agg [.flt .f32 x, S'] /\ SlW H' 9 ms S' /\ FreshS H87.next S') ?_ ?_
  ·show qJ _ _ [E87 42] _ _
   rw [b90]
   exact mG H87 x hx ms hr S (hS.grew g100) mxms
  rintro z H106 ⟨gS105, S105, rfl, sS105, fS105⟩
  have ne107 : ApartL (S105) p15 := fS105.apartL (H87.lt_of_get r101)
  have ne108 : ApartL (S105) p19 := fS105.apartL (H87.lt_of_get r102)
  have ne109 : ApartL (S105) p7 := fS105.apartL (H87.lt_of_get r88)
  have ne110 : ApartL (S105) p11 := fS105.apartL (H87.lt_of_get r89)
  have ne111 : ApartS (S105) (S39) := fS105.apartS s103.lt
  have ne112 : ApartS (S105) (S73) := fS105.apartS s104.lt
  have fr113 : FreshS H.next (S105) := fS105.mono g100.next
  have g114 := Grew.trans g100 gS105
  have r115 := gS105.at r101
  have r116 := gS105.at r102
  have r117 := gS105.at r88
  have r118 := gS105.at r89
  have s119 := s103.grew gS105
  have s120 := s104.grew gS105
  have q121 := q86.app (kL : KdsL [.one] [S105])
  refine rD 2 4 [(.call 18 [.agg [nF 2, nF 3, nF 4]], .agg [nF 2, nF 3, nF 4])] [wf p15 [nF 0, n1 1], wf p19 [nF 2, nF 3, nF 4], ⟨p7, 0, [nF 8, n1 15], true⟩, ⟨p11, 0, [n2 9, n2 10, n2 11], true⟩] [(42, .agg [nF 0, n1 1]), (6, .ptr 1 0), (2, nF 5), (3, nI 6), (4, nF 7), (12, .ptr 2 0), (13, .ptr 3 0), (14, nI 12), (5, .ptr 0 0), (43, .agg [nF 0, n1 16])] q121 (.cons (qG (args := [.agg [.flt .f32 a, .flt .f32 b, .flt .f32 c]]) (dL q121) (dE q121) (fun H9 hk => qGD a b c ha hb hc H9)) .nil) (sc (sp B3) (.cons qB .nil)) ?_
  refine zE kr fun vs ls H122 E122 st hE => ?_
  obtain ⟨p123, e124, r125, n126⟩ := pO st hE 16 5 [.flt .f32 (some 0), .nilslice]
  have op123 : H.next <= p123 := Nat.le_trans g114.next (oM n126)
  obtain ⟨p127, e128, r129, n130⟩ := pO st hE 17 6 [.int .i32 0, .int .i32 0, .int .i32 0]
  have op127 : H.next <= p127 := Nat.le_trans g114.next (oM n130)
  obtain ⟨p131, e132, r133, n134⟩ := pO st hE 15 4 [.flt .f32 x, S105]
  have op131 : H.next <= p131 := Nat.le_trans g114.next (oM n134)
  have ne135 := pn st hE 16 5 17 6 [lF, lN] e124 e128
  have ne136 := pn st hE 16 5 15 4 [lF, lN] e124 e132
  have ne137 := pn st hE 17 6 15 4 [l0, l0, l0] e128 e132
  have ne138 := apn r115 (oM n126)
  have ne139 := apn r116 (oM n126)
  have ne140 := apn r117 (oM n126)
  have ne141 := apn r118 (oM n126)
  have ne142 : ApartL (S39) p123 := s119.apart_new (oM n126)
  have ne143 : ApartL (S73) p123 := s120.apart_new (oM n126)
  have ne144 : ApartL (S105) p123 := sS105.apart_new (oM n126)
  have ne145 := apn r115 (oM n130)
  have ne146 := apn r116 (oM n130)
  have ne147 := apn r117 (oM n130)
  have ne148 := apn r118 (oM n130)
  have ne149 : ApartL (S39) p127 := s119.apart_new (oM n130)
  have ne150 : ApartL (S73) p127 := s120.apart_new (oM n130)
  have ne151 : ApartL (S105) p127 := sS105.apart_new (oM n130)
  have ne152 := apn r115 (oM n134)
  have ne153 := apn r116 (oM n134)
  have ne154 := apn r117 (oM n134)
  have ne155 := apn r118 (oM n134)
  have ne156 : ApartL (S39) p131 := s119.apart_new (oM n134)
  have ne157 : ApartL (S73) p131 := s120.apart_new (oM n134)
  have ne158 : ApartL (S105) p131 := sS105.apart_new (oM n134)
  have b159 := eo st hE 45 (.agg [.flt .f32 x, S105])
  have b160 := eo st hE 47 (.agg [.flt .f32 a, .flt .f32 b, .flt .f32 c])
  have b161 := eo st hE 48 (.flt .f32 wt)
  have b162 := eo st hE 49 (.int .i64 t)
  have b163 := eo st hE 50 (.flt .f32 g)
  have B4 := es st hE [(45, .agg [.flt .f32 x, S105]), (47, .agg [.flt .f32 a, .flt .f32 b, .flt .f32 c]), (48, .flt .f32 wt), (49, .int .i64 t), (50, .flt .f32 g), (12, .ptr p7 0), (13, .ptr p11 0), (14, .int .i64 d), (5, .ptr p15 0), (6, .ptr p19 0), (2, .flt .f32 wt), (3, .int .i64 t), (4, .flt .f32 g)]
  have g172 : Grew H106 H122 := (gk st)
  have g173 := Grew.trans g114 g172
  have r174 := g172.at r115
  have r175 := g172.at r116
  have r176 := g172.at r117
  have r177 := g172.at r118
  have s178 := s119.grew g172
  have s179 := s120.grew g172
  have s180 := sS105.grew g172
  refine tB (free := false) (d := (some 51)) (f := 19) (args := [.tmp 45, .tmp 47, .tmp 48, .tmp 49, .tmp 50]) kr (R := fun z H' => Grew H122 H' /\ ∃ S', z = .tuple [.agg [.flt .f32 y, S'], .agg [.int .i32 e0, .int .i32 e1, .int .i32 e2], .int .i64 d] /\ SlW H' 9 L S' /\ FreshS H122.next S') ?_ ?_
  ·show qJ _ _ [E122 45, E122 47, E122 48, E122 49, E122 50] _ _
   rw [b159, b160, b161, b162, b163]
   exact (by have h9 := dO H122 x hx ms hr (S105) s180.toL mxms a b c ha hb hc wt hwt t g hg; rw [hV] at h9; exact h9)
  rintro z H181 ⟨gH181, S182, rfl, sS182, fS182⟩
  refine ⟨gH181, ?_⟩
  have ne183 : ApartL (S182) p15 := fS182.apartL (H122.lt_of_get r174)
  have ne184 : ApartL (S182) p19 := fS182.apartL (H122.lt_of_get r175)
  have ne185 : ApartL (S182) p123 := fS182.apartL (H122.lt_of_get r125)
  have ne186 : ApartL (S182) p127 := fS182.apartL (H122.lt_of_get r129)
  have ne187 : ApartL (S182) p131 := fS182.apartL (H122.lt_of_get r133)
  have ne188 : ApartL (S182) p7 := fS182.apartL (H122.lt_of_get r176)
  have ne189 : ApartL (S182) p11 := fS182.apartL (H122.lt_of_get r177)
  have ne190 : ApartS (S182) (S39) := fS182.apartS s178.lt
  have ne191 : ApartS (S182) (S73) := fS182.apartS s179.lt
  have ne192 : ApartS (S182) (S105) := fS182.apartS s180.lt
  have fr193 : FreshS H.next (S182) := fS182.mono g173.next
  have g194 := Grew.trans g173 gH181
  have r195 := gH181.at r174
  have r196 := gH181.at r175
  have r197 := gH181.at r125
  have r198 := gH181.at r129
  have r199 := gH181.at r133
  have r200 := gH181.at r176
  have r201 := gH181.at r177
  have s202 := s178.grew gH181
  have s203 := s179.grew gH181
  have s204 := s180.grew gH181
  have q205 := q121.app (kL : KdsL [.one] [S182])
  refine rD 3 4 [(.call 12 [.agg [nF 8, n1 17], .agg [nF 8, n1 15]], .lit (.bool true))] [wf p15 [nF 0, n1 1], wf p19 [nF 2, nF 3, nF 4], wf p131 [nF 0, n1 16], ⟨p7, 0, [nF 8, n1 15], true⟩, ⟨p11, 0, [n2 9, n2 10, n2 11], true⟩, ⟨p123, 0, [lF, lN], true⟩, ⟨p127, 0, [l0, l0, l0], true⟩] [(45, .agg [nF 0, n1 16]), (47, .agg [nF 2, nF 3, nF 4]), (48, nF 5), (49, nI 6), (50, nF 7), (12, .ptr 3 0), (13, .ptr 4 0), (14, nI 12), (5, .ptr 0 0), (6, .ptr 1 0), (2, nF 5), (3, nI 6), (4, nF 7), (16, .ptr 5 0), (17, .ptr 6 0), (15, .ptr 2 0), (51, .tup [.agg [nF 8, n1 17], .agg [n2 9, n2 10, n2 11], nI 12])] q205 (.cons (qG (args := [.agg [.flt .f32 y, S182], .agg [.flt .f32 y, S73]]) (r := .bool true) (dL q205) (dE q205) (fun H9 hk => gX H9 y hy L hL _ _ ((sS182.keep hk ⟨by assumption, ⟨by assumption, ⟨by assumption, ⟨by assumption, trivial⟩⟩⟩⟩)).toL ((s203.keep hk ⟨by assumption, ⟨by assumption, ⟨by assumption, ⟨by assumption, trivial⟩⟩⟩⟩)).toL (qMb mxL))) .nil) (sc (sp B4) (.cons (qC rfl e124) (.cons (qC rfl e128) (.cons (qC rfl e132) (.cons qB .nil))))) ?_
  refine zE kr fun vs ls H206 E206 st hE => ?_
  have r207 : H206.get p7 = some (.row [.flt .f32 y, S73] true) := rW st 3
  have r208 : H206.get p11 = some (.row [.int .i32 e0, .int .i32 e1, .int .i32 e2] true) := rW st 4
  have r209 : H206.get p123 = some (.row [.flt .f32 y, S182] true) := rW st 5
  have r210 : H206.get p127 = some (.row [.int .i32 e0, .int .i32 e1, .int .i32 e2] true) := rW st 6
  have b211 := eo st hE 71 (.agg [.flt .f32 x, S])
  have B5 := es st hE [(71, .agg [.flt .f32 x, S]), (70, .agg [.flt .f32 x, S105]), (15, .ptr p131 0), (16, .ptr p123 0), (12, .ptr p7 0), (17, .ptr p127 0), (13, .ptr p11 0), (18, .int .i64 d), (14, .int .i64 d), (5, .ptr p15 0), (6, .ptr p19 0), (2, .flt .f32 wt), (3, .int .i64 t), (4, .flt .f32 g)]
  have g226 : Grew H H206 := qI g194 st.inn.kept ⟨op7, ⟨op11, ⟨op123, ⟨op127, trivial⟩⟩⟩⟩
  have r227 := qW st.inn.kept r195 ⟨aS, ⟨aS, ⟨aS, ⟨aS, trivial⟩⟩⟩⟩
  have r228 := qW st.inn.kept r196 ⟨aS, ⟨aS, ⟨aS, ⟨aS, trivial⟩⟩⟩⟩
  have r229 := qW st.inn.kept r199 ⟨aS, ⟨aS, ⟨aS, ⟨aS, trivial⟩⟩⟩⟩
  have s230 := s202.keep st.inn.kept ⟨by assumption, ⟨by assumption, ⟨by assumption, ⟨by assumption, trivial⟩⟩⟩⟩
  have s231 := s203.keep st.inn.kept ⟨by assumption, ⟨by assumption, ⟨by assumption, ⟨by assumption, trivial⟩⟩⟩⟩
  have s232 := s204.keep st.inn.kept ⟨by assumption, ⟨by assumption, ⟨by assumption, ⟨by assumption, trivial⟩⟩⟩⟩
  have s233 := sS182.keep st.inn.kept ⟨by assumption, ⟨by assumption, ⟨by assumption, ⟨by assumption, trivial⟩⟩⟩⟩
  refine tB (free := false) (d := (some 72)) (f := 9) (args := [.tmp 71]) kr (R := fun z H' => Grew H206 H' /\ ∃ S', z = .agg [.flt .f32 x, S'] /\ SlW H' 9 ms S' /\ FreshS H206.next S') ?_ ?_
  ·show qJ _ _ [E206 71] _ _
   rw [b211]
   exact mG H206 x hx ms hr S (hS.grew g226) mxms
  rintro z H235 ⟨gS234, S234, rfl, sS234, fS234⟩
  refine ⟨gS234, ?_⟩
  have ne236 : ApartL (S234) p15 := fS234.apartL (H206.lt_of_get r227)
  have ne237 : ApartL (S234) p19 := fS234.apartL (H206.lt_of_get r228)
  have ne238 : ApartL (S234) p131 := fS234.apartL (H206.lt_of_get r229)
  have ne239 : ApartL (S234) p7 := fS234.apartL (H206.lt_of_get r207)
  have ne240 : ApartL (S234) p11 := fS234.apartL (H206.lt_of_get r208)
  have ne241 : ApartL (S234) p123 := fS234.apartL (H206.lt_of_get r209)
  have ne242 : ApartL (S234) p127 := fS234.apartL (H206.lt_of_get r210)
  have ne243 : ApartS (S234) (S39) := fS234.apartS s230.lt
  have ne244 : ApartS (S234) (S73) := fS234.apartS s231.lt
  have ne245 : ApartS (S234) (S105) := fS234.apartS s232.lt
  have ne246 : ApartS (S234) (S182) := fS234.apartS s233.lt
  have fr247 : FreshS H.next (S234) := fS234.mono g226.next
  have g248 := Grew.trans g226 gS234
  have r249 := gS234.at r227
  have r250 := gS234.at r228
  have r251 := gS234.at r229
  have r252 := gS234.at r207
  have r253 := gS234.at r208
  have r254 := gS234.at r209
  have r255 := gS234.at r210
  have s256 := s230.grew gS234
  have s257 := s231.grew gS234
  have s258 := s232.grew gS234
  have s259 := s233.grew gS234
  have q260 := q205.app (kL : KdsL [.one] [S234])
  refine rD 3 4 [(.call 12 [.agg [nF 0, n1 16], .agg [nF 0, n1 18]], .lit (.bool true))] [wf p15 [nF 0, n1 1], wf p19 [nF 2, nF 3, nF 4], wf p131 [nF 0, n1 16], ⟨p7, 0, [nF 8, n1 15], true⟩, ⟨p11, 0, [n2 9, n2 10, n2 11], true⟩, ⟨p123, 0, [nF 8, n1 17], true⟩, ⟨p127, 0, [n2 9, n2 10, n2 11], true⟩] [(71, .agg [nF 0, n1 1]), (70, .agg [nF 0, n1 16]), (15, .ptr 2 0), (16, .ptr 5 0), (12, .ptr 3 0), (17, .ptr 6 0), (13, .ptr 4 0), (18, nI 12), (14, nI 12), (5, .ptr 0 0), (6, .ptr 1 0), (2, nF 5), (3, nI 6), (4, nF 7), (72, .agg [nF 0, n1 18])] q260 (.cons (qG (args := [.agg [.flt .f32 x, S105], .agg [.flt .f32 x, S234]]) (r := .bool true) (dL q260) (dE q260) (fun H9 hk => gX H9 x hx ms hr _ _ ((s258.keep hk ⟨by assumption, ⟨by assumption, ⟨by assumption, ⟨by assumption, trivial⟩⟩⟩⟩)).toL ((sS234.keep hk ⟨by assumption, ⟨by assumption, ⟨by assumption, ⟨by assumption, trivial⟩⟩⟩⟩)).toL (qMb mxms))) .nil) (sc (sp B5) (.cons qB .nil)) ?_
  refine zE kr fun vs ls H261 E261 st hE => ?_
  have b262 := eo st hE 75 (.agg [.flt .f32 x, S105])
  have b263 := eo st hE 76 (.int .i64 1)
  have B6 := es st hE [(75, .agg [.flt .f32 x, S105]), (76, .int .i64 1), (19, .int .i64 1), (16, .ptr p123 0), (12, .ptr p7 0), (17, .ptr p127 0), (13, .ptr p11 0), (18, .int .i64 d), (14, .int .i64 d), (5, .ptr p15 0), (6, .ptr p19 0), (2, .flt .f32 wt), (3, .int .i64 t), (4, .flt .f32 g)]
  have g276 : Grew H235 H261 := (gk st)
  have g277 := Grew.trans g248 g276
  have r278 := g276.at r249
  have r279 := g276.at r250
  have r281 := g276.at r252
  have r282 := g276.at r253
  have r283 := g276.at r254
  have r284 := g276.at r255
  have s285 := s256.grew g276
  have s286 := s257.grew g276
  have s287 := s258.grew g276
  have s288 := s259.grew g276
  have s289 := sS234.grew g276
  refine jD (d := (some 77)) (f := 13) (args := [.tmp 75, .tmp 76]) kr (R := fun z H' => z = .int .i64 (1 + 9 * (ms.length : Int)) /\ OnlyS S105 H261 H' /\ SlW H' 9 (jN 1 ms.length) S105) ?_ ?_
  ·show qJ _ _ [E261 75, E261 76] _ _
   rw [b262, b263]
   exact qAL H261 x hx ms hr S105 s287 1 (by decide) (by decide) mxms
  rintro z H290 ⟨rfl, oH290, nH290⟩
  have g291 : Grew H H290 := OnlyS.own g277 fr113 oH290
  have r292 := oH290.at r278 am
  have r293 := oH290.at r279 am
  have r294 := oH290.at r281 am
  have r295 := oH290.at r282 am
  have r296 := oH290.at r283 am
  have r297 := oH290.at r284 am
  have s298 := s285.only oH290 (by first | assumption | exact ApartS.symm am)
  have s299 := s286.only oH290 (by first | assumption | exact ApartS.symm am)
  have s300 := s288.only oH290 (by first | assumption | exact ApartS.symm am)
  have s301 := s289.only oH290 (by first | assumption | exact ApartS.symm am)
  have q302 := q260.app (kL : KdsL [KI] [.int .i64 (1 + 9 * (ms.length : Int))])
  refine rD 2 4 [(.call 12 [.agg [nF 8, n1 17], .agg [nF 8, n1 15]], .lit (.bool true))] [wf p15 [nF 0, n1 1], wf p19 [nF 2, nF 3, nF 4], ⟨p7, 0, [nF 8, n1 15], true⟩, ⟨p11, 0, [n2 9, n2 10, n2 11], true⟩, ⟨p123, 0, [nF 8, n1 17], true⟩, ⟨p127, 0, [n2 9, n2 10, n2 11], true⟩] [(75, .agg [nF 0, n1 16]), (76, .lit (.int .i64 1)), (19, .lit (.int .i64 1)), (16, .ptr 4 0), (12, .ptr 2 0), (17, .ptr 5 0), (13, .ptr 3 0), (18, nI 12), (14, nI 12), (5, .ptr 0 0), (6, .ptr 1 0), (2, nF 5), (3, nI 6), (4, nF 7), (77, nI 19)] q302 (.cons (qG (args := [.agg [.flt .f32 y, S182], .agg [.flt .f32 y, S73]]) (r := .bool true) (dL q302) (dE q302) (fun H9 hk => gX H9 y hy L hL _ _ ((s300.keep hk ⟨by assumption, ⟨by assumption, ⟨by assumption, ⟨by assumption, trivial⟩⟩⟩⟩)).toL ((s299.keep hk ⟨by assumption, ⟨by assumption, ⟨by assumption, ⟨by assumption, trivial⟩⟩⟩⟩)).toL (qMb mxL))) .nil) (sc (sp B6) (.cons qB .nil)) ?_
  refine bV kr ?_ ?_
  ·intro vs ls H303 E303 st hE
   have f304 : (1 + 9 * (ms.length : Int)) < 0 := dt st 0
   exact absurd f304 om
  ·intro vs ls H305 E305 st hE
   have f306 : ¬ ((1 + 9 * (ms.length : Int)) < 0) := df st 0
   have b307 := eo st hE 97 (.agg [.flt .f32 y, S182])
   have b308 := eo st hE 98 (.int .i64 1)
   have B7 := es st hE [(97, .agg [.flt .f32 y, S182]), (98, .int .i64 1), (16, .ptr p123 0), (20, .int .i64 1), (5, .ptr p15 0), (6, .ptr p19 0), (2, .flt .f32 wt), (3, .int .i64 t), (4, .flt .f32 g), (12, .ptr p7 0), (13, .ptr p11 0), (14, .int .i64 d)]
   have g319 : Grew H290 H305 := (gk st)
   have g320 := Grew.trans g291 g319
   have r321 := g319.at r292
   have r322 := g319.at r293
   have r323 := g319.at r294
   have r324 := g319.at r295
   have r325 := g319.at r296
   have s327 := s298.grew g319
   have s328 := s299.grew g319
   have s329 := nH290.grew g319
   have s330 := s300.grew g319
   have s331 := s301.grew g319
   refine jD (d := (some 99)) (f := 13) (args := [.tmp 97, .tmp 98]) kr (R := fun z H' => z = .int .i64 (1 + 9 * (L.length : Int)) /\ OnlyS S182 H305 H' /\ SlW H' 9 (jN 1 L.length) S182) ?_ ?_
   ·show qJ _ _ [E305 97, E305 98] _ _
    rw [b307, b308]
    exact qAL H305 y hy L hL S182 s330 1 (by decide) (by decide) mxL
   rintro z H332 ⟨rfl, oH332, nH332⟩
   have g333 : Grew H H332 := OnlyS.own g320 fr193 oH332
   have r334 := oH332.at r321 am
   have r335 := oH332.at r322 am
   have r336 := oH332.at r323 am
   have r337 := oH332.at r324 am
   have r338 := oH332.at r325 am
   have s339 := s327.only oH332 (by first | assumption | exact ApartS.symm am)
   have s340 := s328.only oH332 (by first | assumption | exact ApartS.symm am)
   have s341 := s329.only oH332 (by first | assumption | exact ApartS.symm am)
   have s342 := s331.only oH332 (by first | assumption | exact ApartS.symm am)
   have q343 := q302.app (kL : KdsL [KI] [.int .i64 (1 + 9 * (L.length : Int))])
   refine rD 2 4 [(.call 14 [.agg [nF 8, n1 17], .lit (.int .i64 1)], nI 20)] [wf p15 [nF 0, n1 1], wf p19 [nF 2, nF 3, nF 4], ⟨p7, 0, [nF 8, n1 15], true⟩, ⟨p11, 0, [n2 9, n2 10, n2 11], true⟩, ⟨p123, 0, [nF 8, n1 17], true⟩] [(97, .agg [nF 8, n1 17]), (98, .lit (.int .i64 1)), (16, .ptr 4 0), (20, .lit (.int .i64 1)), (5, .ptr 0 0), (6, .ptr 1 0), (2, nF 5), (3, nI 6), (4, nF 7), (12, .ptr 2 0), (13, .ptr 3 0), (14, nI 12), (99, nI 20)] q343 (.cons (qG (args := [.agg [.flt .f32 y, S182], .int .i64 1]) (r := .int .i64 (1 + 9 * (L.length : Int))) (dL q343) (dE q343) (fun H9 hk => qAK H9 y hy 1 L.length S182 ((nH332.keep hk ⟨by assumption, ⟨by assumption, ⟨by assumption, trivial⟩⟩⟩)).toL (by decide) (by decide) mxL)) .nil) (sc (sp B7) (.cons qB .nil)) ?_
   refine bV kr ?_ ?_
   ·intro vs ls H344 E344 st hE
    have f345 : (1 + 9 * (L.length : Int)) < 0 := dt st 0
    exact absurd f345 om
   ·intro vs ls H346 E346 st hE
    have f347 : ¬ ((1 + 9 * (L.length : Int)) < 0) := df st 0
    obtain ⟨p348, e349, r350, n351⟩ := pO st hE 22 5 [.flt .f32 (some 0), .nilslice]
    have op348 : H.next <= p348 := Nat.le_trans g333.next (oM n351)
    obtain ⟨p352, e353, r354, n355⟩ := pO st hE 23 6 [.int .i32 0, .int .i32 0, .int .i32 0]
    have op352 : H.next <= p352 := Nat.le_trans g333.next (oM n355)
    have ne356 := pn st hE 22 5 23 6 [lF, lN] e349 e353
    have ne357 := apn r334 (oM n351)
    have ne358 := apn r335 (oM n351)
    have ne359 := apn r336 (oM n351)
    have ne360 := apn r337 (oM n351)
    have ne361 := apn r338 (oM n351)
    have ne362 : ApartL (S39) p348 := s339.apart_new (oM n351)
    have ne363 : ApartL (S73) p348 := s340.apart_new (oM n351)
    have ne364 : ApartL (S105) p348 := s341.apart_new (oM n351)
    have ne365 : ApartL (S182) p348 := nH332.apart_new (oM n351)
    have ne366 : ApartL (S234) p348 := s342.apart_new (oM n351)
    have ne367 := apn r334 (oM n355)
    have ne368 := apn r335 (oM n355)
    have ne369 := apn r336 (oM n355)
    have ne370 := apn r337 (oM n355)
    have ne371 := apn r338 (oM n355)
    have ne372 : ApartL (S39) p352 := s339.apart_new (oM n355)
    have ne373 : ApartL (S73) p352 := s340.apart_new (oM n355)
    have ne374 : ApartL (S105) p352 := s341.apart_new (oM n355)
    have ne375 : ApartL (S182) p352 := nH332.apart_new (oM n355)
    have ne376 : ApartL (S234) p352 := s342.apart_new (oM n355)
    have b377 := eo st hE 109 (.agg [.flt .f32 x, S])
    have B8 := es st hE [(109, .agg [.flt .f32 x, S]), (111, .agg [.flt .f32 a, .flt .f32 b, .flt .f32 c]), (113, .flt .f32 wt), (114, .int .i64 t), (115, .flt .f32 g), (12, .ptr p7 0), (13, .ptr p11 0), (14, .int .i64 d), (16, .ptr p123 0), (21, .int .i64 (1 + 9 * (L.length : Int))), (20, .int .i64 (1 + 9 * (L.length : Int)))]
    have g388 : Grew H332 H346 := (gk st)
    have g389 := Grew.trans g333 g388
    have r392 := g388.at r336
    have r393 := g388.at r337
    have r394 := g388.at r338
    have s395 := s339.grew g388
    have s396 := s340.grew g388
    have s397 := s341.grew g388
    have s398 := nH332.grew g388
    have s399 := s342.grew g388
    refine tB (free := false) (d := (some 110)) (f := 9) (args := [.tmp 109]) kr (R := fun z H' => Grew H346 H' /\ ∃ S', z = .agg [.flt .f32 x, S'] /\ SlW H' 9 ms S' /\ FreshS H346.next S') ?_ ?_
    ·show qJ _ _ [E346 109] _ _
     rw [b377]
     exact mG H346 x hx ms hr S (hS.grew g389) mxms
    rintro z H401 ⟨gS400, S400, rfl, sS400, fS400⟩
    refine ⟨gS400, ?_⟩
    have ne402 : ApartL (S400) p348 := fS400.apartL (H346.lt_of_get r350)
    have ne403 : ApartL (S400) p352 := fS400.apartL (H346.lt_of_get r354)
    have ne404 : ApartL (S400) p7 := fS400.apartL (H346.lt_of_get r392)
    have ne405 : ApartL (S400) p11 := fS400.apartL (H346.lt_of_get r393)
    have ne406 : ApartL (S400) p123 := fS400.apartL (H346.lt_of_get r394)
    have ne407 : ApartS (S400) (S39) := fS400.apartS s395.lt
    have ne408 : ApartS (S400) (S73) := fS400.apartS s396.lt
    have ne409 : ApartS (S400) (S105) := fS400.apartS s397.lt
    have ne410 : ApartS (S400) (S182) := fS400.apartS s398.lt
    have ne411 : ApartS (S400) (S234) := fS400.apartS s399.lt
    have fr412 : FreshS H.next (S400) := fS400.mono g389.next
    have g413 := Grew.trans g389 gS400
    have r414 := gS400.at r350
    have r415 := gS400.at r354
    have r416 := gS400.at r392
    have r417 := gS400.at r393
    have r418 := gS400.at r394
    have s419 := s395.grew gS400
    have s420 := s396.grew gS400
    have s421 := s397.grew gS400
    have s422 := s398.grew gS400
    have s423 := s399.grew gS400
    have q424 := q343.app (kL : KdsL [.one] [S400])
    refine rD 2 4 [(.call 18 [.agg [nF 2, nF 3, nF 4]], .agg [nF 2, nF 3, nF 4])] [wf p348 [lF, lN], wf p352 [l0, l0, l0], ⟨p7, 0, [nF 8, n1 15], true⟩, ⟨p11, 0, [n2 9, n2 10, n2 11], true⟩, ⟨p123, 0, [nF 8, n1 17], true⟩] [(109, .agg [nF 0, n1 1]), (111, .agg [nF 2, nF 3, nF 4]), (113, nF 5), (114, nI 6), (115, nF 7), (12, .ptr 2 0), (13, .ptr 3 0), (14, nI 12), (16, .ptr 4 0), (21, nI 20), (20, nI 20), (22, .ptr 0 0), (23, .ptr 1 0), (110, .agg [nF 0, n1 21])] q424 (.cons (qG (args := [.agg [.flt .f32 a, .flt .f32 b, .flt .f32 c]]) (dL q424) (dE q424) (fun H9 hk => qGD a b c ha hb hc H9)) .nil) (sc (sp B8) (.cons (qC rfl e349) (.cons (qC rfl e353) (.cons qB .nil)))) ?_
    refine zE kr fun vs ls H425 E425 st hE => ?_
    have b426 := eo st hE 110 (.agg [.flt .f32 x, S400])
    have b427 := eo st hE 112 (.agg [.flt .f32 a, .flt .f32 b, .flt .f32 c])
    have b428 := eo st hE 113 (.flt .f32 wt)
    have b429 := eo st hE 114 (.int .i64 t)
    have b430 := eo st hE 115 (.flt .f32 g)
    have B9 := es st hE [(110, .agg [.flt .f32 x, S400]), (112, .agg [.flt .f32 a, .flt .f32 b, .flt .f32 c]), (113, .flt .f32 wt), (114, .int .i64 t), (115, .flt .f32 g), (22, .ptr p348 0), (23, .ptr p352 0), (12, .ptr p7 0), (13, .ptr p11 0), (14, .int .i64 d), (16, .ptr p123 0), (21, .int .i64 (1 + 9 * (L.length : Int))), (20, .int .i64 (1 + 9 * (L.length : Int)))]
    have g439 : Grew H401 H425 := (gk st)
    have g440 := Grew.trans g413 g439
    have r441 := g439.at r414
    have r442 := g439.at r415
    have r443 := g439.at r416
    have r444 := g439.at r417
    have r445 := g439.at r418
    have s446 := s419.grew g439
    have s447 := s420.grew g439
    have s448 := s421.grew g439
    have s449 := s422.grew g439
    have s450 := s423.grew g439
    have s451 := sS400.grew g439
    refine tB (free := false) (d := (some 116)) (f := 19) (args := [.tmp 110, .tmp 112, .tmp 113, .tmp 114, .tmp 115]) kr (R := fun z H' => Grew H425 H' /\ ∃ S', z = .tuple [.agg [.flt .f32 y, S'], .agg [.int .i32 e0, .int .i32 e1, .int .i32 e2], .int .i64 d] /\ SlW H' 9 L S' /\ FreshS H425.next S') ?_ ?_
    ·show qJ _ _ [E425 110, E425 112, E425 113, E425 114, E425 115] _ _
     rw [b426, b427, b428, b429, b430]
     exact (by have h9 := dO H425 x hx ms hr (S400) s451.toL mxms a b c ha hb hc wt hwt t g hg; rw [hV] at h9; exact h9)
    rintro z H452 ⟨gH452, S453, rfl, sS453, fS453⟩
    refine ⟨gH452, ?_⟩
    have ne454 : ApartL (S453) p348 := fS453.apartL (H425.lt_of_get r441)
    have ne455 : ApartL (S453) p352 := fS453.apartL (H425.lt_of_get r442)
    have ne456 : ApartL (S453) p7 := fS453.apartL (H425.lt_of_get r443)
    have ne457 : ApartL (S453) p11 := fS453.apartL (H425.lt_of_get r444)
    have ne458 : ApartL (S453) p123 := fS453.apartL (H425.lt_of_get r445)
    have ne459 : ApartS (S453) (S39) := fS453.apartS s446.lt
    have ne460 : ApartS (S453) (S73) := fS453.apartS s447.lt
    have ne461 : ApartS (S453) (S105) := fS453.apartS s448.lt
    have ne462 : ApartS (S453) (S182) := fS453.apartS s449.lt
    have ne463 : ApartS (S453) (S234) := fS453.apartS s450.lt
    have ne464 : ApartS (S453) (S400) := fS453.apartS s451.lt
    have fr465 : FreshS H.next (S453) := fS453.mono g440.next
    have g466 := Grew.trans g440 gH452
    have r467 := gH452.at r441
    have r468 := gH452.at r442
    have r469 := gH452.at r443
    have r470 := gH452.at r444
    have r471 := gH452.at r445
    have s473 := s447.grew gH452
    have s475 := s449.grew gH452
    have q478 := q424.app (kL : KdsL [.one] [S453])
    refine rD 0 4 [(.call 12 [.agg [nF 8, n1 22], .agg [nF 8, n1 15]], .lit (.bool true)), (.call 14 [.agg [nF 8, n1 17], .lit (.int .i64 1)], nI 20)] [⟨p7, 0, [nF 8, n1 15], true⟩, ⟨p11, 0, [n2 9, n2 10, n2 11], true⟩, ⟨p123, 0, [nF 8, n1 17], true⟩, ⟨p348, 0, [lF, lN], true⟩, ⟨p352, 0, [l0, l0, l0], true⟩] [(110, .agg [nF 0, n1 21]), (112, .agg [nF 2, nF 3, nF 4]), (113, nF 5), (114, nI 6), (115, nF 7), (22, .ptr 3 0), (23, .ptr 4 0), (12, .ptr 0 0), (13, .ptr 1 0), (14, nI 12), (16, .ptr 2 0), (21, nI 20), (20, nI 20), (116, .tup [.agg [nF 8, n1 22], .agg [n2 9, n2 10, n2 11], nI 12])] q478 (.cons (qG (args := [.agg [.flt .f32 y, S453], .agg [.flt .f32 y, S73]]) (r := .bool true) (dL q478) (dE q478) (fun H9 hk => gX H9 y hy L hL _ _ ((sS453.keep hk ⟨by assumption, ⟨by assumption, ⟨by assumption, ⟨by assumption, ⟨by assumption, trivial⟩⟩⟩⟩⟩)).toL ((s473.keep hk ⟨by assumption, ⟨by assumption, ⟨by assumption, ⟨by assumption, ⟨by assumption, trivial⟩⟩⟩⟩⟩)).toL (qMb mxL))) (.cons (qG (args := [.agg [.flt .f32 y, S182], .int .i64 1]) (r := .int .i64 (1 + 9 * (L.length : Int))) (dL q478) (dE q478) (fun H9 hk => qAK H9 y hy 1 L.length S182 ((s475.keep hk ⟨by assumption, ⟨by assumption, ⟨by assumption, ⟨by assumption, ⟨by assumption, trivial⟩⟩⟩⟩⟩)).toL (by decide) (by decide) mxL)) .nil)) (sc (sp B9) (.cons qB .nil)) ?_
    refine bV kr ?_ ?_
    ·intro vs ls H479 E479 st hE
     have f480 : (1 + 9 * (L.length : Int)) < 0 := dt st 0
     exact absurd f480 om
    ·intro vs ls H481 E481 st hE
     have f482 : ¬ ((1 + 9 * (L.length : Int)) < 0) := df st 0
     exact jG kr (zR st.inn hE (.inr rfl) (a := .bool true) kr (Nat.le_trans g466.next st.kept.1) rfl)
end Go.Proofs.Ytacligocjfhckaa
