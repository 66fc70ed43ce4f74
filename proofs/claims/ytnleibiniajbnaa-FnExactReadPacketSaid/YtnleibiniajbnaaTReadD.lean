/- Contracts: packets that are read, by impl. -/
import Derived.Test.YtnleibiniajbnaaTReadC
import Derived.Test.YtnleibiniajbnaaSxE
set_option linter.unusedVariables false
set_option linter.unusedSimpArgs false
namespace Go.Proofs.Ytnleibiniajbnaa
open Go.Ab
set_option maxRecDepth 100000
set_option maxHeartbeats 1000000
attribute [local irreducible] Res
theorem rule_sub {c : Cx} {x i k v : SV} {S : AV} {l n cap sz a b : Nat} (hx : D c.vs c.ls x S) (eS : S = .slice l 0 n cap sz) (hi : D c.vs c.ls i (.int .i64 (a : Int))) (hj : D c.vs c.ls k (.int .i64 (b : Int))) (hv : D c.vs c.ls v (.slice l (a * sz) (b - a) (cap - a) sz)) (hab : a ≤ b) (hb : b ≤ cap) : RuleOk c (.slSl sz x (some i) (some k)) v := by
 subst eS
 refine ⟨_, some (.int .i64 (a : Int)), some (.int .i64 (b : Int)), _, hx, ⟨_, rfl, hi⟩, ⟨_, rfl, hj⟩, hv, fun E get => ?_⟩
 simp only [aval, Opd.ev, Option.map_some, Option.map_none]
 rw [if_pos trivial]
 have : bnds n cap (some (.int .i64 (a : Int))) (some (.int .i64 (b : Int))) none = some (a, b, cap) := by
  simp only [bnds, bnd]
  rw [if_pos ⟨by omega, by omega⟩]
  simp only [Int.toNat_natCast]
  rw [if_pos ⟨by omega, by omega⟩]
 rw [this]
 simp
theorem rule_toS {c : Cx} {x i v : SV} {S : AV} {l n cap sz k : Nat} (hx : D c.vs c.ls x S) (eS : S = .slice l 0 n cap sz) (hi : D c.vs c.ls i (.int .i64 (k : Int))) (hv : D c.vs c.ls v (.slice l 0 k cap sz)) (hk : k ≤ cap) : RuleOk c (.slSl sz x none (some i)) v := by
 subst eS
 exact rule_to hx hi hv hk
theorem SlL.cut {H : AHeap} {sz : Nat} {ms : List (List AV)} {l cap k : Nat} {rest : List AV} {wr : Bool} (hg : H.get l = some (.row (ms.flatten ++ rest) wr)) (hk : k ≤ ms.length) (hc : ms.length ≤ cap) : SlL H sz (ms.take k) (.slice l 0 k cap sz) := by
 refine .sl (rest := (ms.drop k).flatten ++ rest) (wr := wr) ?_ (by rw [List.length_take]; omega) om
 rw [← List.append_assoc, ← List.flatten_append, List.take_append_drop]
 exact hg
theorem RngB.take {ms : List (List AV)} (h : RngB ms) (k : Nat) : RngB (ms.take k) := fun m hm => h m (List.mem_of_mem_take hm)
def rdM (ms : List (List AV)) (i : Nat) : List AV := [.int .i64 (num4 ms (4 + 10 * i)), .int .i16 (IntKind.wrap .i16 (num2 ms (8 + 10 * i))), .int .i16 (IntKind.wrap .i16 (num2 ms (10 + 10 * i))), .int .i16 (IntKind.wrap .i16 (num2 ms (12 + 10 * i)))]
def rdL (ms : List (List AV)) (n : Nat) : List (List AV) := (List.range n).map (rdM ms)
theorem rdL_len (ms : List (List AV)) (n : Nat) : (rdL ms n).length = n := by simp [rdL]
theorem rdL_succ (ms : List (List AV)) (n : Nat) : rdL ms (n + 1) = rdL ms n ++ [rdM ms n] := by simp [rdL, List.range_succ]
theorem rdL_recs (ms : List (List AV)) (n : Nat) : Recs KR (rdL ms n) := by
 intro m hm
 simp only [rdL, List.mem_map] at hm
 obtain ⟨i, _, rfl⟩ := hm
 exact .cons kA (.cons kA (.cons kA (.cons kA .nil)))
def hdrR (ms : List (List AV)) : Prop := 6 ≤ ms.length ∧ byN ms 0 = 82 ∧ byN ms 1 = 68 ∧ (ms.length : Int) = 10 * num2 ms 2 + 6
theorem num2_rng {ms : List (List AV)} (h : RngB ms) (o : Nat) (ho : o + 2 ≤ ms.length) : 0 ≤ num2 ms o ∧ num2 ms o < 65536 := by
 have h0 := (byN_get h (show o < ms.length by omega)).2
 have h1 := (byN_get h (show o + 1 < ms.length by omega)).2
 unfold num2
 omega
theorem hdrR_get {ms : List (List AV)} (h : hdrR ms) : ∃ n : Nat, num2 ms 2 = (n : Int) ∧ ms.length = 10 * n + 6 := by
 obtain ⟨_, _, _, h4⟩ := h
 have h0 : 0 ≤ num2 ms 2 := by unfold num2; omega
 exact ⟨(num2 ms 2).toNat, by omega, by omega⟩
def bodR (ms : List (List AV)) : List (List AV) := ms.take (ms.length - 2)
theorem bodR_len (ms : List (List AV)) : (bodR ms).length = ms.length - 2 := by unfold bodR; rw [List.length_take]; omega
def prfR (ms : List (List AV)) : Prop := bodR ms ++ chk2 (sumB (bodR ms) (bodR ms).length % 65521) = ms
open Classical in
noncomputable def rdV (ms : List (List AV)) : List (List AV) × Int :=
 if 2566 < ms.length then ([], 2) else if hdrR ms then (if okFeed (rdL ms (num2 ms 2).toNat) = true then (if prfR ms then (rdL ms (num2 ms 2).toNat, 0) else ([], 8)) else ([], 5)) else ([], 5)
theorem str2 {ms : List (List AV)} (hg : RngB ms) (h : 6 ≤ ms.length) : strOf (ms.take 2) = [82, 68] ↔ (byN ms 0 = 82 ∧ byN ms 1 = 68) := by
 have e : ms.take 2 = [[.int .u8 (byN ms 0 : Int)], [.int .u8 (byN ms 1 : Int)]] := by
  apply List.ext_getElem
  ·
   simp; omega
  ·
   intro i h1 h2
   have : i < 2 := by simpa using h2
   rw [List.getElem_take, (byN_get hg om).1]
   match i, this with
   | 0, _ => rfl
   | 1, _ => rfl
 have zb0 := (byN_get hg (show 0 < ms.length by omega)).2
 have zb1 := (byN_get hg (show 1 < ms.length by omega)).2
 rw [e]
 constructor
 ·
  intro h
  have h2 := strOf_inj (ms := [[.int .u8 (byN ms 0 : Int)], [.int .u8 (byN ms 1 : Int)]]) (ms' := [[.int .u8 82], [.int .u8 68]]) (fun m hm => by simp at hm; rcases hm with rfl | rfl <;> exact ⟨_, rfl, by omega, by omega⟩) (fun m hm => by simp at hm; rcases hm with rfl | rfl <;> exact ⟨_, rfl, by omega, by omega⟩) (by rw [h]; rfl)
  simp at h2
  omega
 ·
  rintro ⟨e0, e1⟩
  rw [e0, e1]; rfl
open Classical in
theorem k_impl_ReadPacket (H : AHeap) (ms : List (List AV)) (hg : RngB ms) (S : AV) (hS : SlL H 1 ms S) (hmx : ms.length < 2 ^ 40) : ACalls Try.prog 34 [S] H fun r H' => Grew H H' ∧ ∃ S', r = .tuple [S', .int .i64 (rdV ms).2] ∧ SlW H' 4 (rdV ms).1 S' ∧ FreshS H.next S' := by
 refine res_start h_impl_ReadPacket (by simp) ?_
 have q1 : KdsL [.one, KI] [S, .int .i64 (ms.length : Int)] := kL
 refine rD 0 0 [(.len (n1 0), nI 1)] [] [(0, n1 0)] q1 (.cons (⟨_, _, (dE q1), (dE q1), slLen hS⟩) .nil) (.cons (t := 0) rfl .nil) ?_
 refine all3 kr ?_ ?_ ?_
 ·
  intro vs ls H2 E2 st hE
  have f3 : 2566 < (ms.length : Int) := dt st 0
  have gz : Grew H H2 := (Grew.trans (Grew.refl _) (gk st))
  have hv : rdV ms = ([], 2) := by
   unfold rdV; rw [if_pos om]
  exact re st hE (.tuple [.nilslice, .int .i64 2]) gz.next (by rw [hv]; exact ⟨gz, _, rfl, .nil rfl, FreshS.nil⟩)
 ·
  intro vs ls H4 E4 st hE
  have f5 : (ms.length : Int) < 6 := dt st 0
  have f6 : ¬ (2566 < (ms.length : Int)) := df st 1
  have gz : Grew H H4 := (Grew.trans (Grew.refl _) (gk st))
  have hv : rdV ms = ([], 5) := by
   unfold rdV; rw [if_neg om, if_neg (fun hh => by have := hh.1; omega)]
  exact re st hE (.tuple [.nilslice, .int .i64 5]) gz.next (by rw [hv]; exact ⟨gz, _, rfl, .nil rfl, FreshS.nil⟩)
 ·
  intro vs ls H7 E7 st hE
  have f8 : ¬ ((ms.length : Int) < 6) := df st 0
  have f9 : ¬ (2566 < (ms.length : Int)) := df st 1
  obtain ⟨w11, hw11⟩ : ∃ z, z = (decide ((ms.length : Int) < 6)) := ⟨_, rfl⟩
  have b12 : E7 17 = .bool w11 := by rw [hw11]; exact eo st hE 17 _
  have B1 := es st hE [(18, S), (4, .int .i64 (ms.length : Int)), (0, S)]
  have g15 : Grew H H7 := (gk st)
  have g16 : Grew H H7 := Grew.trans (Grew.refl _) g15
  obtain ⟨l0, cap0, rest0, wr0, eS, gS0, hc0⟩ := hS.isSlC (i := 0) om
  have q17 := q1.app (.cons kA (.cons rfl .nil) : KdsL [.bool, .one] [.bool w11, .slice l0 0 2 cap0 1])
  refine rD 0 0 [(.slSl 1 (n1 0) none (some (.lit (.int .i64 2))), n1 3)] [] [(18, n1 0), (4, nI 1), (0, n1 0), (17, nB 2)] q17 (.cons (rule_toS (k := 2) (dE q17) eS (dE q17) (dE q17) om) .nil) (sc B1 (.cons b12 .nil)) ?_
  refine all2 kr ?_ ?_
  ·
   intro vs ls H18 E18 st hE
   have f19 : w11 = true := bf st 0
   rw [hw11] at f19
   exact absurd (of_decide_eq_true f19) f8
  ·
   intro vs ls H22 E22 st hE
   have f23 : w11 = false := bf st 0
   have b24 := eo st hE 19 (.slice l0 0 2 cap0 1)
   have b25 := eo st hE 17 (.bool w11)
   have B2 := es st hE [(19, .slice l0 0 2 cap0 1), (4, .int .i64 (ms.length : Int)), (0, S)]
   have g28 : Grew H7 H22 := (gk st)
   have g29 := Grew.trans g16 g28
   have gd30 : E22 17 = .bool false := by rw [b25, f23]
   refine res_convg (d := some 20) (c := .bs) (x := .tmp 19) (g := 17) (b := false) (r := (.str (strOf (ms.take 2)))) kr gd30 (conv_bs (H := H22) (RngB.take hg 2).recs ((SlL.cut gS0 (k := 2) om hc0).grew g29) b24) ?_
   have q31 := q17.app (kL : KdsL [.str] [.str (strOf (ms.take 2))])
   refine rC 0 0 [] [(19, n1 3), (4, nI 1), (0, n1 0), (17, .lit (.bool false)), (20, .nd 4 .str)] q31 (sc (sp B2) (.cons (put_ne rfl gd30) (.cons put_same .nil))) ?_
   refine all2 kr ?_ ?_
   ·
    intro vs ls H32 E32 st hE
    have f33 : ¬ ((strOf (ms.take 2)) = [82, 68]) := df st 0
    have gz : Grew H H32 := (Grew.trans g29 (gk st))
    have hv : rdV ms = ([], 5) := by
     unfold rdV; rw [if_neg om, if_neg (fun hh => f33 ((str2 hg om).2 ⟨hh.2.1, hh.2.2.1⟩))]
    exact re st hE (.tuple [.nilslice, .int .i64 5]) gz.next (by rw [hv]; exact ⟨gz, _, rfl, .nil rfl, FreshS.nil⟩)
   ·
    intro vs ls H34 E34 st hE
    have f35 : (strOf (ms.take 2)) = [82, 68] := dt st 0
    obtain ⟨w38, hw38⟩ : ∃ z, z = (!(decide ((strOf (ms.take 2)) = [82, 68]))) := ⟨_, rfl⟩
    have b39 : E34 23 = .bool w38 := by rw [hw38]; exact eo st hE 23 _
    have B3 := es st hE [(25, S), (24, .int .i64 (ms.length : Int)), (4, .int .i64 (ms.length : Int)), (0, S)]
    have g42 : Grew H22 H34 := (gk st)
    have g43 := Grew.trans g29 g42
    have q44 := q31.app (.cons kA (.cons rfl (.cons kA .nil)) : KdsL [.bool, .one, KI] [.bool w38, .slice l0 2 2 (cap0 - 2) 1, .int .i64 (num2 ms 2)])
    refine rD 0 0 [(.slSl 1 (n1 0) (some (.lit (.int .i64 2))) (some (.lit (.int .i64 4))), n1 6), (.call 80 [n1 6], nI 7)] [] [(25, n1 0), (24, nI 1), (4, nI 1), (0, n1 0), (23, nB 5)] q44 (.cons (rule_sub (a := 2) (b := 4) (dE q44) eS (dE q44) (dE q44) (dE q44) om om) (.cons (rule_call (args := [.slice l0 2 2 (cap0 - 2) 1]) (r := .int .i64 (num2 ms 2)) (dL q44) (dE q44) (fun H9 hk => k_num2 H9 ms hg l0 _ rest0 wr0 ((Grew.trans g43 (hk.grew (Nat.le_refl _))).at gS0) 2 om)) .nil)) (sc B3 (.cons b39 .nil)) ?_
    refine all3 kr ?_ ?_ ?_
    ·
     intro vs ls H45 E45 st hE
     have f46 : w38 = true := bf st 0
     have gz : Grew H H45 := (Grew.trans g43 (gk st))
     rw [hw38] at f46; simp [f35] at f46
    ·
     intro vs ls H47 E47 st hE
     have f48 : ¬ ((ms.length : Int) = (IntKind.wrap .i64 ((IntKind.wrap .i64 (10 * (num2 ms 2))) + 6))) := df st 0
     have f49 : w38 = false := bf st 1
     have gz : Grew H H47 := (Grew.trans g43 (gk st))
     have hn9 := num2_rng hg 2 om
     have hl9 := f48
     rw [show IntKind.wrap .i64 (10 * num2 ms 2) = 10 * num2 ms 2 from wrap_i64 om om, show IntKind.wrap .i64 (10 * num2 ms 2 + 6) = 10 * num2 ms 2 + 6 from wrap_i64 om om] at hl9
     have hv : rdV ms = ([], 5) := by
      unfold rdV; rw [if_neg om, if_neg (fun hh => hl9 hh.2.2.2)]
     exact re st hE (.tuple [.nilslice, .int .i64 5]) gz.next (by rw [hv]; exact ⟨gz, _, rfl, .nil rfl, FreshS.nil⟩)
    ·
     intro vs ls H50 E50 st hE
     have f51 : (ms.length : Int) = (IntKind.wrap .i64 ((IntKind.wrap .i64 (10 * (num2 ms 2))) + 6)) := dt st 0
     have f52 : w38 = false := bf st 1
     obtain ⟨p53, e54, r55, n56⟩ := sl_of st.inn hE 5 0 0 0 4 kr (ds := []) kr
     have op53 : H.next ≤ p53 := Nat.le_trans g43.next (oM n56)
     have b57 := eo st hE 6 (.int .i64 4)
     have b58 := eo st hE 4 (.int .i64 (ms.length : Int))
     have b59 := eo st hE 0 S
     have g60 : Grew H34 H50 := (gk st)
     have g61 := Grew.trans g43 g60
     refine res_loop kr (fun z E H' => ∃ (i : Nat) (acc62_0 : AV), z + i = (num2 ms 2).toNat ∧ E 4 = .int .i64 (ms.length : Int) ∧ E 0 = S ∧ E 5 = acc62_0 ∧ E 6 = .int .i64 ((4 + 10 * i : Nat) : Int) ∧ Grew H H' ∧ SlF H' 4 (rdL ms i) acc62_0 ∧ FreshS H.next acc62_0) ((num2 ms 2).toNat) ⟨0, .slice p53 0 0 0 4, by omega, b58, b59, e54, b57, g61, (show SlF _ 4 [] _ from (.sl (by simpa [keepTo] using r55) rfl (Nat.le_refl _))), (FreshS.of_le op53)⟩ ?_
     rintro z62 Ei62 Hi62 ⟨i62, acc62_0, hz62, c62_4, c62_0, ca62_0, cx62_6, gt62, s62_0, f62_0⟩
     have hln62_0 : ((rdL ms i62)).length = i62 + 0 := rdL_len ms i62
     have hn9 := num2_rng hg 2 om
     have hl9 := f51
     rw [show IntKind.wrap .i64 (10 * num2 ms 2) = 10 * num2 ms 2 from wrap_i64 om om, show IntKind.wrap .i64 (10 * num2 ms 2 + 6) = 10 * num2 ms 2 + 6 from wrap_i64 om om] at hl9
     have hh : hdrR ms := ⟨by omega, ((str2 hg om).1 f35).1, ((str2 hg om).1 f35).2, hl9⟩
     obtain ⟨N, hN, hL⟩ := hdrR_get hh
     have hnN : (num2 ms 2).toNat = N := by omega
     have q63 := q44.app (kL : KdsL [.one, KI] [acc62_0, .int .i64 ((4 + 10 * i62 : Nat) : Int)])
     refine rC 0 8 [] [(4, nI 1), (0, n1 0), (5, n1 8), (6, nI 9)] q63 (.cons c62_4 (.cons c62_0 (.cons ca62_0 (.cons cx62_6 .nil)))) ?_
     refine all2 kr ?_ ?_
     ·
      intro vs ls H64 E64 st hE
      have f65 : ((4 + 10 * i62 : Nat) : Int) < (IntKind.wrap .i64 ((ms.length : Int) - 2)) := dt st 0
      rw [show IntKind.wrap .i64 ((ms.length : Int) - 2) = (ms.length : Int) - 2 from wrap_i64 om om] at f65
      have b66 := eo st hE 39 S
      have b67 := eo st hE 40 (.int .i64 ((4 + 10 * i62 : Nat) : Int))
      obtain ⟨w68, hw68⟩ : ∃ z, z = (IntKind.wrap .i64 (((4 + 10 * i62 : Nat) : Int) + 4)) := ⟨_, rfl⟩
      have b69 : E64 42 = .int .i64 w68 := by rw [hw68]; exact eo st hE 42 _
      have B4 := es st hE [(39, S), (40, .int .i64 ((4 + 10 * i62 : Nat) : Int)), (0, S), (6, .int .i64 ((4 + 10 * i62 : Nat) : Int)), (5, acc62_0), (4, .int .i64 (ms.length : Int))]
      have g74 : Grew Hi62 H64 := (gk st)
      have g75 := Grew.trans gt62 g74
      have s76 := s62_0.grew g74
      have nw68 : w68 = (((4 + 10 * i62 : Nat) : Int) + 4) := by
       rw [hw68]
       rw [show (IntKind.wrap .i64 (((4 + 10 * i62 : Nat) : Int) + 4)) = ((4 + 10 * i62 : Nat) : Int) + 4 from wrap_i64 om om]
      have e77 : E64 40 = .int .i64 (((4 + 10 * i62) : Nat) : Int) := by rw [b67]; first | done | (congr 1; done) | (congr 1; omega)
      have e78 : E64 42 = .int .i64 (((4 + 10 * i62 + 4) : Nat) : Int) := by rw [b69]; first | done | (congr 1; done) | (congr 1; omega)
      have v79 : aval E64 H64.get (.slSl 1 (.tmp 39) (some (.tmp 40)) (some (.tmp 42)) none) = some (.slice l0 (4 + 10 * i62) 4 (cap0 - (4 + 10 * i62)) 1) := by
       have h9 := sub_val (H := H64) (lo := (some (.tmp 40))) (hi := (some (.tmp 42))) (a := (4 + 10 * i62)) (b := (4 + 10 * i62 + 4)) (b66.trans eS) (.inr (congrArg some e77)) (.inr (congrArg some e78)) om om
       rw [h9, show (4 + 10 * i62 + 4) - (4 + 10 * i62) = 4 by omega, Nat.zero_add, Nat.mul_one]
      refine res_q (d := some 43) (op := .slSl 1 (.tmp 39) (some (.tmp 40)) (some (.tmp 42)) none) (r := .slice l0 (4 + 10 * i62) 4 (cap0 - (4 + 10 * i62)) 1) kr rfl v79 ?_
      have q80 := q63.app (.cons kA (.cons rfl (.cons kA .nil)) : KdsL [KI, .one, KI] [.int .i64 w68, .slice l0 (4 + 10 * i62) 4 (cap0 - (4 + 10 * i62)) 1, .int .i64 (num4 ms (4 + 10 * i62))])
      refine rD 0 8 [(.call 80 [n1 11], nI 12)] [] [(39, n1 0), (40, nI 9), (0, n1 0), (6, nI 9), (5, n1 8), (4, nI 1), (42, nI 10), (43, n1 11)] q80 (.cons (rule_call (args := [.slice l0 (4 + 10 * i62) 4 (cap0 - (4 + 10 * i62)) 1]) (r := .int .i64 (num4 ms (4 + 10 * i62))) (dL q80) (dE q80) (fun H9 hk => k_num4 H9 ms hg l0 _ rest0 wr0 ((Grew.trans g75 (hk.grew (Nat.le_refl _))).at gS0) (4 + 10 * i62) om)) .nil) (sc (sp B4) (.cons (put_ne rfl b69) (.cons put_same .nil))) ?_
      refine all1 kr fun vs ls H81 E81 st hE => ?_
      obtain ⟨p82, e83, r84, n85⟩ := pO st hE 7 0 [.int .i64 (num4 ms (4 + 10 * i62)), .int .i16 0, .int .i16 0, .int .i16 0]
      have op82 : H.next ≤ p82 := Nat.le_trans g75.next (oM n85)
      have ne86 : ApartL (acc62_0) p82 := s76.apart_new (oM n85)
      have b87 := eo st hE 50 S
      obtain ⟨w88, hw88⟩ : ∃ z, z = (IntKind.wrap .i64 ((IntKind.wrap .i64 (((4 + 10 * i62 : Nat) : Int) + 4)) + 0)) := ⟨_, rfl⟩
      have b89 : E81 55 = .int .i64 w88 := by rw [hw88]; exact eo st hE 55 _
      obtain ⟨w90, hw90⟩ : ∃ z, z = (IntKind.wrap .i64 ((IntKind.wrap .i64 (((4 + 10 * i62 : Nat) : Int) + 6)) + 0)) := ⟨_, rfl⟩
      have b91 : E81 60 = .int .i64 w90 := by rw [hw90]; exact eo st hE 60 _
      obtain ⟨w101, hw101⟩ : ∃ z, z = (IntKind.wrap .i64 (((4 + 10 * i62 : Nat) : Int) + 4)) := ⟨_, rfl⟩
      have b102 : E81 52 = .int .i64 w101 := by rw [hw101]; exact eo st hE 52 _
      obtain ⟨w106, hw106⟩ : ∃ z, z = (IntKind.wrap .i64 (((4 + 10 * i62 : Nat) : Int) + 6)) := ⟨_, rfl⟩
      have b107 : E81 57 = .int .i64 w106 := by rw [hw106]; exact eo st hE 57 _
      have B5 := es st hE [(50, S), (49, .int .i64 0), (46, .int .i64 0), (47, .bool true), (48, .int .i64 0), (8, .int .i64 0), (0, S), (6, .int .i64 ((4 + 10 * i62 : Nat) : Int)), (51, .int .i64 ((4 + 10 * i62 : Nat) : Int)), (53, .int .i64 0), (54, .int .i64 0), (56, .int .i64 ((4 + 10 * i62 : Nat) : Int)), (58, .int .i64 0), (59, .int .i64 0), (5, acc62_0), (4, .int .i64 (ms.length : Int))]
      have g111 : Grew H64 H81 := (gk st)
      have g112 := Grew.trans g75 g111
      have s113 := s76.grew g111
      have nw88 : w88 = ((((4 + 10 * i62 : Nat) : Int) + 4) + 0) := by
       rw [hw88]
       rw [show (IntKind.wrap .i64 (((4 + 10 * i62 : Nat) : Int) + 4)) = ((4 + 10 * i62 : Nat) : Int) + 4 from wrap_i64 om om]
       rw [show (IntKind.wrap .i64 ((((4 + 10 * i62 : Nat) : Int) + 4) + 0)) = (((4 + 10 * i62 : Nat) : Int) + 4) + 0 from wrap_i64 om om]
      have nw90 : w90 = ((((4 + 10 * i62 : Nat) : Int) + 6) + 0) := by
       rw [hw90]
       rw [show (IntKind.wrap .i64 (((4 + 10 * i62 : Nat) : Int) + 6)) = ((4 + 10 * i62 : Nat) : Int) + 6 from wrap_i64 om om]
       rw [show (IntKind.wrap .i64 ((((4 + 10 * i62 : Nat) : Int) + 6) + 0)) = (((4 + 10 * i62 : Nat) : Int) + 6) + 0 from wrap_i64 om om]
      have nw101 : w101 = (((4 + 10 * i62 : Nat) : Int) + 4) := by
       rw [hw101]
       rw [show (IntKind.wrap .i64 (((4 + 10 * i62 : Nat) : Int) + 4)) = ((4 + 10 * i62 : Nat) : Int) + 4 from wrap_i64 om om]
      have nw106 : w106 = (((4 + 10 * i62 : Nat) : Int) + 6) := by
       rw [hw106]
       rw [show (IntKind.wrap .i64 (((4 + 10 * i62 : Nat) : Int) + 6)) = ((4 + 10 * i62 : Nat) : Int) + 6 from wrap_i64 om om]
      have e114 : E81 55 = .int .i64 (((8 + 10 * i62) : Nat) : Int) := by rw [b89]; first | done | (congr 1; done) | (congr 1; omega)
      have e115 : E81 60 = .int .i64 (((8 + 10 * i62 + 2) : Nat) : Int) := by rw [b91]; first | done | (congr 1; done) | (congr 1; omega)
      have v116 : aval E81 H81.get (.slSl 1 (.tmp 50) (some (.tmp 55)) (some (.tmp 60)) none) = some (.slice l0 (8 + 10 * i62) 2 (cap0 - (8 + 10 * i62)) 1) := by
       have h9 := sub_val (H := H81) (lo := (some (.tmp 55))) (hi := (some (.tmp 60))) (a := (8 + 10 * i62)) (b := (8 + 10 * i62 + 2)) (b87.trans eS) (.inr (congrArg some e114)) (.inr (congrArg some e115)) om om
       rw [h9, show (8 + 10 * i62 + 2) - (8 + 10 * i62) = 2 by omega, Nat.zero_add, Nat.mul_one]
      refine res_q (d := some 61) (op := .slSl 1 (.tmp 50) (some (.tmp 55)) (some (.tmp 60)) none) (r := .slice l0 (8 + 10 * i62) 2 (cap0 - (8 + 10 * i62)) 1) kr rfl v116 ?_
      have q117 := q80.app (.cons kA (.cons kA (.cons kA (.cons kA (.cons rfl (.cons kA (.cons kA .nil)))))) : KdsL [KI, KI, KI, KI, .one, KI, KI] [.int .i64 w88, .int .i64 w90, .int .i64 w101, .int .i64 w106, .slice l0 (8 + 10 * i62) 2 (cap0 - (8 + 10 * i62)) 1, .int .i64 (num2 ms (8 + 10 * i62)), .int .i64 (num2 ms (8 + 10 * i62))])
      refine rD 0 8 [(.call 80 [n1 17], nI 19)] [⟨p82, 0, [nI 12, .lit (.int .i16 0), .lit (.int .i16 0), .lit (.int .i16 0)], true⟩] [(50, n1 0), (49, .lit (.int .i64 0)), (46, .lit (.int .i64 0)), (47, .lit (.bool true)), (48, .lit (.int .i64 0)), (8, .lit (.int .i64 0)), (0, n1 0), (6, nI 9), (51, nI 9), (53, .lit (.int .i64 0)), (54, .lit (.int .i64 0)), (56, nI 9), (58, .lit (.int .i64 0)), (59, .lit (.int .i64 0)), (5, n1 8), (4, nI 1), (55, nI 13), (60, nI 14), (7, .ptr 0 0), (52, nI 15), (57, nI 16), (61, n1 17)] q117 (.cons (rule_call (args := [.slice l0 (8 + 10 * i62) 2 (cap0 - (8 + 10 * i62)) 1]) (r := .int .i64 (num2 ms (8 + 10 * i62))) (dL q117) (dE q117) (fun H9 hk => k_num2 H9 ms hg l0 _ rest0 wr0 ((grew_own g112 hk ⟨op82, trivial⟩).at gS0) (8 + 10 * i62) om)) .nil) (sc (sp B5) (.cons (put_ne rfl b89) (.cons (put_ne rfl b91) (.cons (put_ne rfl e83) (.cons (put_ne rfl b102) (.cons (put_ne rfl b107) (.cons put_same .nil))))))) ?_
      refine all1 kr fun vs ls H118 E118 st hE => ?_
      obtain ⟨w119, hw119⟩ : ∃ z, z = (IntKind.wrap .i16 (num2 ms (8 + 10 * i62))) := ⟨_, rfl⟩
      have r120 : H118.get p82 = some (.row [.int .i64 (num4 ms (4 + 10 * i62)), .int .i16 (IntKind.wrap .i16 (num2 ms (8 + 10 * i62))), .int .i16 0, .int .i16 0] true) := rW st 0
      rw [← hw119] at r120
      have b121 := eo st hE 50 S
      obtain ⟨w122, hw122⟩ : ∃ z, z = (IntKind.wrap .i64 ((IntKind.wrap .i64 (((4 + 10 * i62 : Nat) : Int) + 4)) + 2)) := ⟨_, rfl⟩
      have b123 : E118 55 = .int .i64 w122 := by rw [hw122]; exact eo st hE 55 _
      obtain ⟨w124, hw124⟩ : ∃ z, z = (IntKind.wrap .i64 ((IntKind.wrap .i64 (((4 + 10 * i62 : Nat) : Int) + 6)) + 2)) := ⟨_, rfl⟩
      have b125 : E118 60 = .int .i64 w124 := by rw [hw124]; exact eo st hE 60 _
      have b132 : E118 63 = .int .i16 w119 := by rw [hw119]; exact eo st hE 63 _
      obtain ⟨w142, hw142⟩ : ∃ z, z = (IntKind.wrap .i64 (((4 + 10 * i62 : Nat) : Int) + 4)) := ⟨_, rfl⟩
      have b143 : E118 52 = .int .i64 w142 := by rw [hw142]; exact eo st hE 52 _
      obtain ⟨w147, hw147⟩ : ∃ z, z = (IntKind.wrap .i64 (((4 + 10 * i62 : Nat) : Int) + 6)) := ⟨_, rfl⟩
      have b148 : E118 57 = .int .i64 w147 := by rw [hw147]; exact eo st hE 57 _
      have B6 := es st hE [(50, S), (62, .int .i64 (num2 ms (8 + 10 * i62))), (7, .ptr p82 0), (64, .ptr p82 1), (49, .int .i64 1), (65, .ptr p82 1), (46, .int .i64 1), (66, .int .i64 1), (47, .bool true), (48, .int .i64 1), (8, .int .i64 1), (0, S), (6, .int .i64 ((4 + 10 * i62 : Nat) : Int)), (51, .int .i64 ((4 + 10 * i62 : Nat) : Int)), (53, .int .i64 1), (54, .int .i64 2), (56, .int .i64 ((4 + 10 * i62 : Nat) : Int)), (58, .int .i64 1), (59, .int .i64 2), (5, acc62_0), (4, .int .i64 (ms.length : Int))]
      have g153 : Grew H H118 := grew_own g112 st.inn.kept ⟨op82, trivial⟩
      have s154 := s113.keep st.inn.kept ⟨by assumption, trivial⟩
      have nw122 : w122 = ((((4 + 10 * i62 : Nat) : Int) + 4) + 2) := by
       rw [hw122]
       rw [show (IntKind.wrap .i64 (((4 + 10 * i62 : Nat) : Int) + 4)) = ((4 + 10 * i62 : Nat) : Int) + 4 from wrap_i64 om om]
       rw [show (IntKind.wrap .i64 ((((4 + 10 * i62 : Nat) : Int) + 4) + 2)) = (((4 + 10 * i62 : Nat) : Int) + 4) + 2 from wrap_i64 om om]
      have nw124 : w124 = ((((4 + 10 * i62 : Nat) : Int) + 6) + 2) := by
       rw [hw124]
       rw [show (IntKind.wrap .i64 (((4 + 10 * i62 : Nat) : Int) + 6)) = ((4 + 10 * i62 : Nat) : Int) + 6 from wrap_i64 om om]
       rw [show (IntKind.wrap .i64 ((((4 + 10 * i62 : Nat) : Int) + 6) + 2)) = (((4 + 10 * i62 : Nat) : Int) + 6) + 2 from wrap_i64 om om]
      have nw142 : w142 = (((4 + 10 * i62 : Nat) : Int) + 4) := by
       rw [hw142]
       rw [show (IntKind.wrap .i64 (((4 + 10 * i62 : Nat) : Int) + 4)) = ((4 + 10 * i62 : Nat) : Int) + 4 from wrap_i64 om om]
      have nw147 : w147 = (((4 + 10 * i62 : Nat) : Int) + 6) := by
       rw [hw147]
       rw [show (IntKind.wrap .i64 (((4 + 10 * i62 : Nat) : Int) + 6)) = ((4 + 10 * i62 : Nat) : Int) + 6 from wrap_i64 om om]
      have e155 : E118 55 = .int .i64 (((10 + 10 * i62) : Nat) : Int) := by rw [b123]; first | done | (congr 1; done) | (congr 1; omega)
      have e156 : E118 60 = .int .i64 (((10 + 10 * i62 + 2) : Nat) : Int) := by rw [b125]; first | done | (congr 1; done) | (congr 1; omega)
      have v157 : aval E118 H118.get (.slSl 1 (.tmp 50) (some (.tmp 55)) (some (.tmp 60)) none) = some (.slice l0 (10 + 10 * i62) 2 (cap0 - (10 + 10 * i62)) 1) := by
       have h9 := sub_val (H := H118) (lo := (some (.tmp 55))) (hi := (some (.tmp 60))) (a := (10 + 10 * i62)) (b := (10 + 10 * i62 + 2)) (b121.trans eS) (.inr (congrArg some e155)) (.inr (congrArg some e156)) om om
       rw [h9, show (10 + 10 * i62 + 2) - (10 + 10 * i62) = 2 by omega, Nat.zero_add, Nat.mul_one]
      refine res_q (d := some 61) (op := .slSl 1 (.tmp 50) (some (.tmp 55)) (some (.tmp 60)) none) (r := .slice l0 (10 + 10 * i62) 2 (cap0 - (10 + 10 * i62)) 1) kr rfl v157 ?_
      have q158 := q117.app (.cons kA (.cons kA (.cons kA (.cons kA (.cons kA (.cons rfl (.cons kA .nil)))))) : KdsL [.int .i16, KI, KI, KI, KI, .one, KI] [.int .i16 w119, .int .i64 w122, .int .i64 w124, .int .i64 w142, .int .i64 w147, .slice l0 (10 + 10 * i62) 2 (cap0 - (10 + 10 * i62)) 1, .int .i64 (num2 ms (10 + 10 * i62))])
      refine rD 0 8 [(.call 80 [n1 25], nI 26)] [⟨p82, 0, [nI 12, .nd 20 (.int .i16), .lit (.int .i16 0), .lit (.int .i16 0)], true⟩] [(50, n1 0), (62, nI 19), (7, .ptr 0 0), (64, .ptr 0 1), (49, .lit (.int .i64 1)), (65, .ptr 0 1), (46, .lit (.int .i64 1)), (66, .lit (.int .i64 1)), (47, .lit (.bool true)), (48, .lit (.int .i64 1)), (8, .lit (.int .i64 1)), (0, n1 0), (6, nI 9), (51, nI 9), (53, .lit (.int .i64 1)), (54, .lit (.int .i64 2)), (56, nI 9), (58, .lit (.int .i64 1)), (59, .lit (.int .i64 2)), (5, n1 8), (4, nI 1), (55, nI 21), (60, nI 22), (63, .nd 20 (.int .i16)), (52, nI 23), (57, nI 24), (61, n1 25)] q158 (.cons (rule_call (args := [.slice l0 (10 + 10 * i62) 2 (cap0 - (10 + 10 * i62)) 1]) (r := .int .i64 (num2 ms (10 + 10 * i62))) (dL q158) (dE q158) (fun H9 hk => k_num2 H9 ms hg l0 _ rest0 wr0 ((grew_own g153 hk ⟨op82, trivial⟩).at gS0) (10 + 10 * i62) om)) .nil) (sc (sp B6) (.cons (put_ne rfl b123) (.cons (put_ne rfl b125) (.cons (put_ne rfl b132) (.cons (put_ne rfl b143) (.cons (put_ne rfl b148) (.cons put_same .nil))))))) ?_
      refine all1 kr fun vs ls H159 E159 st hE => ?_
      obtain ⟨w160, hw160⟩ : ∃ z, z = (IntKind.wrap .i16 (num2 ms (10 + 10 * i62))) := ⟨_, rfl⟩
      have r161 : H159.get p82 = some (.row [.int .i64 (num4 ms (4 + 10 * i62)), .int .i16 w119, .int .i16 (IntKind.wrap .i16 (num2 ms (10 + 10 * i62))), .int .i16 0] true) := rW st 0
      rw [← hw160] at r161
      have b162 := eo st hE 50 S
      obtain ⟨w163, hw163⟩ : ∃ z, z = (IntKind.wrap .i64 ((IntKind.wrap .i64 (((4 + 10 * i62 : Nat) : Int) + 4)) + 4)) := ⟨_, rfl⟩
      have b164 : E159 55 = .int .i64 w163 := by rw [hw163]; exact eo st hE 55 _
      obtain ⟨w165, hw165⟩ : ∃ z, z = (IntKind.wrap .i64 ((IntKind.wrap .i64 (((4 + 10 * i62 : Nat) : Int) + 6)) + 4)) := ⟨_, rfl⟩
      have b166 : E159 60 = .int .i64 w165 := by rw [hw165]; exact eo st hE 60 _
      have b173 : E159 63 = .int .i16 w160 := by rw [hw160]; exact eo st hE 63 _
      obtain ⟨w183, hw183⟩ : ∃ z, z = (IntKind.wrap .i64 (((4 + 10 * i62 : Nat) : Int) + 4)) := ⟨_, rfl⟩
      have b184 : E159 52 = .int .i64 w183 := by rw [hw183]; exact eo st hE 52 _
      obtain ⟨w188, hw188⟩ : ∃ z, z = (IntKind.wrap .i64 (((4 + 10 * i62 : Nat) : Int) + 6)) := ⟨_, rfl⟩
      have b189 : E159 57 = .int .i64 w188 := by rw [hw188]; exact eo st hE 57 _
      have B7 := es st hE [(50, S), (62, .int .i64 (num2 ms (10 + 10 * i62))), (7, .ptr p82 0), (64, .ptr p82 1), (49, .int .i64 2), (65, .ptr p82 2), (46, .int .i64 2), (66, .int .i64 2), (47, .bool true), (48, .int .i64 2), (8, .int .i64 2), (0, S), (6, .int .i64 ((4 + 10 * i62 : Nat) : Int)), (51, .int .i64 ((4 + 10 * i62 : Nat) : Int)), (53, .int .i64 2), (54, .int .i64 4), (56, .int .i64 ((4 + 10 * i62 : Nat) : Int)), (58, .int .i64 2), (59, .int .i64 4), (5, acc62_0), (4, .int .i64 (ms.length : Int))]
      have g194 : Grew H H159 := grew_own g153 st.inn.kept ⟨op82, trivial⟩
      have s195 := s154.keep st.inn.kept ⟨by assumption, trivial⟩
      have nw163 : w163 = ((((4 + 10 * i62 : Nat) : Int) + 4) + 4) := by
       rw [hw163]
       rw [show (IntKind.wrap .i64 (((4 + 10 * i62 : Nat) : Int) + 4)) = ((4 + 10 * i62 : Nat) : Int) + 4 from wrap_i64 om om]
       rw [show (IntKind.wrap .i64 ((((4 + 10 * i62 : Nat) : Int) + 4) + 4)) = (((4 + 10 * i62 : Nat) : Int) + 4) + 4 from wrap_i64 om om]
      have nw165 : w165 = ((((4 + 10 * i62 : Nat) : Int) + 6) + 4) := by
       rw [hw165]
       rw [show (IntKind.wrap .i64 (((4 + 10 * i62 : Nat) : Int) + 6)) = ((4 + 10 * i62 : Nat) : Int) + 6 from wrap_i64 om om]
       rw [show (IntKind.wrap .i64 ((((4 + 10 * i62 : Nat) : Int) + 6) + 4)) = (((4 + 10 * i62 : Nat) : Int) + 6) + 4 from wrap_i64 om om]
      have nw183 : w183 = (((4 + 10 * i62 : Nat) : Int) + 4) := by
       rw [hw183]
       rw [show (IntKind.wrap .i64 (((4 + 10 * i62 : Nat) : Int) + 4)) = ((4 + 10 * i62 : Nat) : Int) + 4 from wrap_i64 om om]
      have nw188 : w188 = (((4 + 10 * i62 : Nat) : Int) + 6) := by
       rw [hw188]
       rw [show (IntKind.wrap .i64 (((4 + 10 * i62 : Nat) : Int) + 6)) = ((4 + 10 * i62 : Nat) : Int) + 6 from wrap_i64 om om]
      have e196 : E159 55 = .int .i64 (((12 + 10 * i62) : Nat) : Int) := by rw [b164]; first | done | (congr 1; done) | (congr 1; omega)
      have e197 : E159 60 = .int .i64 (((12 + 10 * i62 + 2) : Nat) : Int) := by rw [b166]; first | done | (congr 1; done) | (congr 1; omega)
      have v198 : aval E159 H159.get (.slSl 1 (.tmp 50) (some (.tmp 55)) (some (.tmp 60)) none) = some (.slice l0 (12 + 10 * i62) 2 (cap0 - (12 + 10 * i62)) 1) := by
       have h9 := sub_val (H := H159) (lo := (some (.tmp 55))) (hi := (some (.tmp 60))) (a := (12 + 10 * i62)) (b := (12 + 10 * i62 + 2)) (b162.trans eS) (.inr (congrArg some e196)) (.inr (congrArg some e197)) om om
       rw [h9, show (12 + 10 * i62 + 2) - (12 + 10 * i62) = 2 by omega, Nat.zero_add, Nat.mul_one]
      refine res_q (d := some 61) (op := .slSl 1 (.tmp 50) (some (.tmp 55)) (some (.tmp 60)) none) (r := .slice l0 (12 + 10 * i62) 2 (cap0 - (12 + 10 * i62)) 1) kr rfl v198 ?_
      have q199 := q158.app (.cons kA (.cons kA (.cons kA (.cons kA (.cons kA (.cons rfl (.cons kA .nil)))))) : KdsL [.int .i16, KI, KI, KI, KI, .one, KI] [.int .i16 w160, .int .i64 w163, .int .i64 w165, .int .i64 w183, .int .i64 w188, .slice l0 (12 + 10 * i62) 2 (cap0 - (12 + 10 * i62)) 1, .int .i64 (num2 ms (12 + 10 * i62))])
      refine rD 0 8 [(.call 80 [n1 32], nI 33)] [⟨p82, 0, [nI 12, .nd 20 (.int .i16), .nd 27 (.int .i16), .lit (.int .i16 0)], true⟩] [(50, n1 0), (62, nI 26), (7, .ptr 0 0), (64, .ptr 0 1), (49, .lit (.int .i64 2)), (65, .ptr 0 2), (46, .lit (.int .i64 2)), (66, .lit (.int .i64 2)), (47, .lit (.bool true)), (48, .lit (.int .i64 2)), (8, .lit (.int .i64 2)), (0, n1 0), (6, nI 9), (51, nI 9), (53, .lit (.int .i64 2)), (54, .lit (.int .i64 4)), (56, nI 9), (58, .lit (.int .i64 2)), (59, .lit (.int .i64 4)), (5, n1 8), (4, nI 1), (55, nI 28), (60, nI 29), (63, .nd 27 (.int .i16)), (52, nI 30), (57, nI 31), (61, n1 32)] q199 (.cons (rule_call (args := [.slice l0 (12 + 10 * i62) 2 (cap0 - (12 + 10 * i62)) 1]) (r := .int .i64 (num2 ms (12 + 10 * i62))) (dL q199) (dE q199) (fun H9 hk => k_num2 H9 ms hg l0 _ rest0 wr0 ((grew_own g194 hk ⟨op82, trivial⟩).at gS0) (12 + 10 * i62) om)) .nil) (sc (sp B7) (.cons (put_ne rfl b164) (.cons (put_ne rfl b166) (.cons (put_ne rfl b173) (.cons (put_ne rfl b184) (.cons (put_ne rfl b189) (.cons put_same .nil))))))) ?_
      refine all1 kr fun vs ls H200 E200 st hE => ?_
      obtain ⟨w201, hw201⟩ : ∃ z, z = (IntKind.wrap .i16 (num2 ms (12 + 10 * i62))) := ⟨_, rfl⟩
      obtain ⟨p202, e203, r204, n205⟩ := sl_of st.inn hE 69 1 1 1 4 kr (ds := [.int .i64 (num4 ms (4 + 10 * i62)), .int .i16 w119, .int .i16 w160, .int .i16 (IntKind.wrap .i16 (num2 ms (12 + 10 * i62)))]) kr
      rw [← hw201] at r204
      have op202 : H.next ≤ p202 := Nat.le_trans g194.next (oM n205)
      have ne206 := apn r161 (oM n205)
      have ne207 : ApartL (acc62_0) p202 := s195.apart_new (oM n205)
      have r208 : H200.get p82 = some (.row [.int .i64 (num4 ms (4 + 10 * i62)), .int .i16 w119, .int .i16 w160, .int .i16 (IntKind.wrap .i16 (num2 ms (12 + 10 * i62)))] true) := rW st 0
      rw [← hw201] at r208
      have b209 := eo st hE 67 acc62_0
      have B8 := es st hE [(67, acc62_0), (6, .int .i64 ((4 + 10 * i62 : Nat) : Int)), (4, .int .i64 (ms.length : Int)), (0, S), (5, acc62_0)]
      have g215 : Grew H H200 := grew_own g194 st.inn.kept ⟨op82, trivial⟩
      have s216 := s195.keep st.inn.kept ⟨by assumption, trivial⟩
      refine res_append (d := (some 70)) (sz := 4) (bytes := 16) (x := .tmp 67) (y := .tmp 69) kr (S := acc62_0) (ms := (rdL ms i62)) (ys := [[.int .i64 (num4 ms (4 + 10 * i62)), .int .i16 w119, .int .i16 w160, .int .i16 w201]]) (by show E200 67 = _; exact b209) s216 (rdL_recs ms i62).len (by show srcCells _ _ (E200 69) = _; rw [e203]; exact src_one r204 rfl) (recs_one (ks := KR) (Recs.one (ks := KR) (.cons kA (.cons kA (.cons kA (.cons kA .nil))))) rfl) (by first | omega | (simp only [List.length_append, List.length_cons, List.length_nil, chk2_len]; omega)) ?_
      intro S217 H218 sS217 fS217 oS217
      have ne219 := aL fS217 r204 am
      have fr220 : FreshS H.next (S217) := fS217.fresh f62_0 g215.next
      have g221 : Grew H H218 := OnlyS.own g215 f62_0 oS217
      have r222 := oS217.at r204 am
      have q223 := q199.app (kL : KdsL [.int .i16, .one] [.int .i16 w201, S217])
      refine rC 1 8 [wf p202 [nI 12, .nd 20 (.int .i16), .nd 27 (.int .i16), .nd 34 (.int .i16)]] [(67, n1 8), (6, nI 9), (4, nI 1), (0, n1 0), (5, n1 8), (69, .sl 0 0 1 1 4), (70, n1 35)] q223 (sc (sp B8) (.cons (put_ne rfl e203) (.cons put_same .nil))) ?_
      refine all1 kr fun vs ls H224 E224 st hE => ?_
      have b225 := eo st hE 4 (.int .i64 (ms.length : Int))
      have b226 := eo st hE 0 S
      have b227 := eo st hE 5 S217
      obtain ⟨w228, hw228⟩ : ∃ z, z = (IntKind.wrap .i64 (((4 + 10 * i62 : Nat) : Int) + 10)) := ⟨_, rfl⟩
      have b229 : E224 6 = .int .i64 w228 := by rw [hw228]; exact eo st hE 6 _
      have g230 : Grew H218 H224 := (gk st)
      have g231 := Grew.trans g221 g230
      have s233 := sS217.grew g230
      have nw228 : w228 = (((4 + 10 * i62 : Nat) : Int) + 10) := by
       rw [hw228]
       rw [show (IntKind.wrap .i64 (((4 + 10 * i62 : Nat) : Int) + 10)) = ((4 + 10 * i62 : Nat) : Int) + 10 from wrap_i64 om om]
      have hz9 : z62 - 1 < z62 := by omega
      have hy9 : z62 - 1 + (i62 + 1) = (num2 ms 2).toNat := by omega
      have hs9 : rdL ms (i62 + 1) = ((rdL ms i62) ++ [[.int .i64 (num4 ms (4 + 10 * i62)), .int .i16 w119, .int .i16 w160, .int .i16 w201]]) := by
       rw [rdL_succ]; unfold rdM; rw [hw119]; rw [hw160]; rw [hw201]
      exact res_norm kr ⟨z62 - 1, hz9, i62 + 1, S217, hy9, b225, b226, b227, (by rw [b229]; first | done | (congr 1; done) | (congr 1; omega)), g231, (by rw [hs9]; exact s233), fr220⟩
     ·
      intro vs ls H234 E234 st hE
      have f235 : ¬ (((4 + 10 * i62 : Nat) : Int) < (IntKind.wrap .i64 ((ms.length : Int) - 2))) := df st 0
      rw [show IntKind.wrap .i64 ((ms.length : Int) - 2) = (ms.length : Int) - 2 from wrap_i64 om om] at f235
      obtain ⟨w240, hw240⟩ : ∃ z, z = (IntKind.wrap .i64 ((ms.length : Int) - 2)) := ⟨_, rfl⟩
      have b241 : E234 35 = .int .i64 w240 := by rw [hw240]; exact eo st hE 35 _
      obtain ⟨w242, hw242⟩ : ∃ z, z = (decide (((4 + 10 * i62 : Nat) : Int) < (IntKind.wrap .i64 ((ms.length : Int) - 2)))) := ⟨_, rfl⟩
      have b243 : E234 36 = .bool w242 := by rw [hw242]; exact eo st hE 36 _
      have B9 := es st hE [(6, .int .i64 ((4 + 10 * i62 : Nat) : Int)), (4, .int .i64 (ms.length : Int)), (34, .int .i64 (ms.length : Int)), (33, .int .i64 ((4 + 10 * i62 : Nat) : Int)), (0, S), (5, acc62_0)]
      have g246 : Grew Hi62 H234 := (gk st)
      have g247 := Grew.trans gt62 g246
      have s248 := s62_0.grew g246
      have nw240 : w240 = ((ms.length : Int) - 2) := by
       rw [hw240]
       rw [show (IntKind.wrap .i64 ((ms.length : Int) - 2)) = (ms.length : Int) - 2 from wrap_i64 om om]
      refine res_exit (id := 1) kr ?_
      have hiN : i62 = N := by omega
      subst hiN
      have q249 := q63.app (kL : KdsL [KI, .bool, .bool] [.int .i64 w240, .bool w242, .bool (okFeed (rdL ms i62))])
      refine rD 0 0 [(.call 62 [n1 8], nB 12)] [] [(6, nI 9), (4, nI 1), (34, nI 1), (33, nI 9), (0, n1 0), (5, n1 8), (35, nI 10), (36, nB 11)] q249 (.cons (rule_call (args := [acc62_0]) (r := .bool (okFeed (rdL ms i62))) (dL q249) (dE q249) (fun H9 hk => k_ValidFeed H9 (rdL ms i62) (rdL_recs ms i62) acc62_0 ((s248.grew (hk.grew (Nat.le_refl _)))).toL (by rw [rdL_len]; omega))) .nil) (sc B9 (.cons b241 (.cons b243 .nil))) ?_
      refine all2 kr ?_ ?_
      ·
       intro vs ls H250 E250 st hE
       have f251 : (okFeed (rdL ms i62)) = false := bf st 0
       have gz : Grew H H250 := (Grew.trans g247 (gk st))
       have hv : rdV ms = ([], 5) := by
        unfold rdV; rw [if_neg om, if_pos hh, hnN]; rw [if_neg (by rw [f251]; decide)]
       exact re st hE (.tuple [.nilslice, .int .i64 5]) gz.next (by rw [hv]; exact ⟨gz, _, rfl, .nil rfl, FreshS.nil⟩)
      ·
       intro vs ls H252 E252 st hE
       have f253 : (okFeed (rdL ms i62)) = true := bf st 0
       have b254 := eo st hE 74 S
       obtain ⟨w255, hw255⟩ : ∃ z, z = (IntKind.wrap .i64 ((ms.length : Int) - 2)) := ⟨_, rfl⟩
       have b256 : E252 76 = .int .i64 w255 := by rw [hw255]; exact eo st hE 76 _
       have B10 := es st hE [(74, S), (0, S), (5, acc62_0)]
       have g259 : Grew H234 H252 := (gk st)
       have g260 := Grew.trans g247 g259
       have s261 := s248.grew g259
       have nw255 : w255 = ((ms.length : Int) - 2) := by
        rw [hw255]
        rw [show (IntKind.wrap .i64 ((ms.length : Int) - 2)) = (ms.length : Int) - 2 from wrap_i64 om om]
       have e262 : E252 76 = .int .i64 ((ms.length - 2 : Nat) : Int) := by rw [b256]; first | done | (congr 1; done) | (congr 1; omega)
       have v263 : aval E252 H252.get (.slSl 1 (.tmp 74) none (some (.tmp 76)) none) = some (.slice l0 0 (ms.length - 2) cap0 1) := by
        have h9 := sub_val (H := H252) (lo := none) (hi := (some (.tmp 76))) (a := 0) (b := ms.length - 2) (b254.trans eS) (.inl ⟨rfl, rfl⟩) (.inr (congrArg some e262)) om om
        simpa using h9
       have hbl : (bodR ms).length = ms.length - 2 := bodR_len ms
       refine res_q (d := some 77) (op := .slSl 1 (.tmp 74) none (some (.tmp 76)) none) (r := .slice l0 0 (ms.length - 2) cap0 1) kr rfl v263 ?_
       have q264 := q249.app (.cons kA (.cons rfl .nil) : KdsL [KI, .one] [.int .i64 w255, .slice l0 0 (ms.length - 2) cap0 1])
       refine rC 0 0 [] [(74, n1 0), (0, n1 0), (5, n1 8), (76, nI 13), (77, n1 14)] q264 (sc (sp B10) (.cons (put_ne rfl b256) (.cons put_same .nil))) ?_
       refine all1 kr fun vs ls H265 E265 st hE => ?_
       have b266 := eo st hE 77 (.slice l0 0 (ms.length - 2) cap0 1)
       have B11 := es st hE [(77, .slice l0 0 (ms.length - 2) cap0 1), (0, S), (5, acc62_0)]
       have g269 : Grew H252 H265 := (gk st)
       have g270 := Grew.trans g260 g269
       have s271 := s261.grew g269
       refine res_call (d := (some 78)) (f := 82) (args := [.tmp 77]) kr (R := fun z H' => Grew H265 H' ∧ SlF H' 1 (bodR ms) z ∧ FreshS H265.next z) ?_ ?_
       ·
        show ACalls _ _ [E265 77] _ _
        rw [b266]
        exact k_CloneB H265 (bodR ms) (RngB.take hg _).recs (.slice l0 0 (ms.length - 2) cap0 1) ((SlL.cut gS0 om hc0).grew g270) om
       rintro S272 H273 ⟨gS272, sS272, fS272⟩
       have ne274 : ApartS (S272) (acc62_0) := fS272.apartS s271.lt
       have fr275 : FreshS H.next (S272) := fS272.mono g270.next
       have q278 := q264.app (kL : KdsL [.one] [S272])
       refine rC 0 0 [] [(77, n1 14), (0, n1 0), (5, n1 8), (78, n1 15)] q278 (sc (sp B11) (.cons put_same .nil)) ?_
       refine all1 kr fun vs ls H279 E279 st hE => ?_
       have b280 := eo st hE 78 S272
       have B12 := es st hE [(78, S272), (0, S), (5, acc62_0)]
       have g283 : Grew H273 H279 := (gk st)
       have s286 := sS272.grew g283
       have hgc9 : RngB (bodR ms ++ chk2 (sumB (bodR ms) (bodR ms).length % 65521)) := RngB.app (RngB.take hg _) (chk2_rng om om)
       refine res_call (d := (some 79)) (f := 81) (args := [.tmp 78]) kr (R := fun z H' => Grew H265 H' ∧ SlF H' 1 (bodR ms ++ chk2 (sumB (bodR ms) (bodR ms).length % 65521)) z ∧ FreshS H265.next z) ?_ ?_
       ·
        show ACalls _ _ [E279 78] _ _
        rw [b280]
        exact k_checked H265 H279 (gS272.trans g283) (bodR ms) (RngB.take hg _) om S272 s286 am
       rintro S288 H287 ⟨gS288, sS288, fS288⟩
       have ne289 : ApartS (S288) (acc62_0) := fS288.apartS s271.lt
       have fr290 : FreshS H.next (S288) := fS288.mono g270.next
       have g291 := Grew.trans g270 gS288
       have s292 := s271.grew gS288
       have q293 := q278.app (kL : KdsL [.one, .bool] [S288, .bool (decide (bodR ms ++ chk2 (sumB (bodR ms) (bodR ms).length % 65521) = ms))])
       refine rD 0 0 [(.call 72 [n1 16, n1 0], nB 17)] [] [(78, n1 15), (0, n1 0), (5, n1 8), (79, n1 16)] q293 (.cons (rule_call (args := [S288, S]) (r := .bool (decide (bodR ms ++ chk2 (sumB (bodR ms) (bodR ms).length % 65521) = ms))) (dL q293) (dE q293) (fun H9 hk => k_EqualB H9 (bodR ms ++ chk2 (sumB (bodR ms) (bodR ms).length % 65521)) ms hgc9 hg (by rw [List.length_append, chk2_len]; omega) om S288 S ((sS288.grew (hk.grew (Nat.le_refl _)))).toL (hS.grew (Grew.trans g291 (hk.grew (Nat.le_refl _)))))) .nil) (sc (sp B12) (.cons put_same .nil)) ?_
       refine all2 kr ?_ ?_
       ·
        intro vs ls H294 E294 st hE
        have f295 : ¬ (bodR ms ++ chk2 (sumB (bodR ms) (bodR ms).length % 65521) = ms) := df st 0
        have gz : Grew H H294 := (Grew.trans g291 (gk st))
        have hv : rdV ms = ([], 8) := by
         unfold rdV; rw [if_neg om, if_pos hh, hnN]; rw [if_pos f253, if_neg (show ¬ prfR ms from f295)]
        exact re st hE (.tuple [.nilslice, .int .i64 8]) gz.next (by rw [hv]; exact ⟨gz, _, rfl, .nil rfl, FreshS.nil⟩)
       ·
        intro vs ls H296 E296 st hE
        have f297 : bodR ms ++ chk2 (sumB (bodR ms) (bodR ms).length % 65521) = ms := dt st 0
        have gz : Grew H H296 := (Grew.trans g291 (gk st))
        have hv : rdV ms = (rdL ms i62, 0) := by
         unfold rdV; rw [if_neg om, if_pos hh, hnN]; rw [if_pos f253, if_pos (show prfR ms from f297)]
        exact re st hE (.tuple [acc62_0, .int .i64 0]) gz.next (by rw [hv]; exact ⟨gz, _, rfl, (s292.grew (st.inn.kept.grew (Nat.le_refl _))).toW, f62_0⟩)
end Go.Proofs.Ytnleibiniajbnaa
