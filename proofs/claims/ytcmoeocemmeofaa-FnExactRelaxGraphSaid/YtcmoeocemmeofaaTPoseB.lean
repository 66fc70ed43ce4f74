/- Contracts: steps of poses as plain functions. -/
import Derived.Test.YtcmoeocemmeofaaTTrigS
import Derived.Test.YtcmoeocemmeofaaTGA
set_option linter.unusedVariables false
set_option linter.unusedSimpArgs false
namespace Go.Proofs.Ytcmoeocemmeofaa
open Go.Ab
set_option maxRecDepth 100000
attribute [local irreducible] Res
theorem e_betw (m m' : List AV) (h : KdsL KP m ∧ KdsL KP m') : ∃ r : List AV, KdsL KP r ∧ ∀ H, APure Try.prog 100 [.agg m, .agg m'] H (.agg r) ∧ APure Try.prog 95 [.agg m, .agg m'] H (.agg r) := by
 obtain ⟨r, h1, _, h2⟩ := pair_flat (φ := φP) (pm := pmP) 20 (sh := .agg KP) (f := 100) (g := 95) rfl rfl tb_ok apP_ok (gk := [(true, KP), (true, KP)]) (gv := [(true, m), (true, m')]) (.cons h.1 (.cons h.2 .nil)) (by decide) (by kernel_rfl)
 cases h1 with
 | agg h1 => exact ⟨_, h1, h2⟩
theorem e_comp (m m' : List AV) (h : KdsL KP m ∧ KdsL KP m') : ∃ r : List AV, KdsL KP r ∧ ∀ H, APure Try.prog 60 [.agg m, .agg m'] H (.agg r) ∧ APure Try.prog 88 [.agg m, .agg m'] H (.agg r) := by
 obtain ⟨r, h1, _, h2⟩ := pair_flat (φ := φP) (pm := pmP) 20 (sh := .agg KP) (f := 60) (g := 88) rfl rfl tb_ok apP_ok (gk := [(true, KP), (true, KP)]) (gv := [(true, m), (true, m')]) (.cons h.1 (.cons h.2 .nil)) (by decide) (by kernel_rfl)
 cases h1 with
 | agg h1 => exact ⟨_, h1, h2⟩
theorem e_back (m : List AV) (h : KdsL KP m) : ∃ r : List AV, KdsL KP r ∧ ∀ H, APure Try.prog 120 [.agg m] H (.agg r) ∧ APure Try.prog 119 [.agg m] H (.agg r) := by
 obtain ⟨r, h1, _, h2⟩ := pair_flat (φ := φP) (pm := pmP) 20 (sh := .agg KP) (f := 120) (g := 119) rfl rfl tb_ok apP_ok (gk := [(true, KP)]) (gv := [(true, m)]) (.cons h .nil) (by decide) (by kernel_rfl)
 cases h1 with
 | agg h1 => exact ⟨_, h1, h2⟩
def zeroP : List AV := [.flt .f32 (some 0), .flt .f32 (some 0), .flt .f32 (some 0)]
theorem zeroP_ok : KdsL KP zeroP := .cons ⟨_, rfl, by intro b hb; cases hb; exact ⟨by decide, by decide +kernel⟩⟩ (.cons ⟨_, rfl, by intro b hb; cases hb; exact ⟨by decide, by decide +kernel⟩⟩ (.cons ⟨_, rfl, by intro b hb; cases hb; exact ⟨by decide, by decide +kernel⟩⟩ .nil))
open Classical in
noncomputable def betwF (m m' : List AV) : List AV := if h : KdsL KP m ∧ KdsL KP m' then Classical.choose (e_betw m m' h) else zeroP
theorem betwF_ok (m m' : List AV) : KdsL KP (betwF m m') := by
 unfold betwF
 split
 ·
  rename_i h; exact (Classical.choose_spec (e_betw m m' h)).1
 ·
  exact zeroP_ok
theorem k_StepBetween (m m' : List AV) (h : KdsL KP m) (h' : KdsL KP m') (H : AHeap) : APure Try.prog 100 [.agg m, .agg m'] H (.agg (betwF m m')) := by
 unfold betwF; rw [dif_pos ⟨h, h'⟩]; exact ((Classical.choose_spec (e_betw m m' ⟨h, h'⟩)).2 H).1
theorem k_l06Between (m m' : List AV) (h : KdsL KP m) (h' : KdsL KP m') (H : AHeap) : APure Try.prog 95 [.agg m, .agg m'] H (.agg (betwF m m')) := by
 unfold betwF; rw [dif_pos ⟨h, h'⟩]; exact ((Classical.choose_spec (e_betw m m' ⟨h, h'⟩)).2 H).2
open Classical in
noncomputable def compF (m m' : List AV) : List AV := if h : KdsL KP m ∧ KdsL KP m' then Classical.choose (e_comp m m' h) else zeroP
theorem compF_ok (m m' : List AV) : KdsL KP (compF m m') := by
 unfold compF
 split
 ·
  rename_i h; exact (Classical.choose_spec (e_comp m m' h)).1
 ·
  exact zeroP_ok
theorem k_ComposePoses (m m' : List AV) (h : KdsL KP m) (h' : KdsL KP m') (H : AHeap) : APure Try.prog 60 [.agg m, .agg m'] H (.agg (compF m m')) := by
 unfold compF; rw [dif_pos ⟨h, h'⟩]; exact ((Classical.choose_spec (e_comp m m' ⟨h, h'⟩)).2 H).1
theorem k_l06Compose (m m' : List AV) (h : KdsL KP m) (h' : KdsL KP m') (H : AHeap) : APure Try.prog 88 [.agg m, .agg m'] H (.agg (compF m m')) := by
 unfold compF; rw [dif_pos ⟨h, h'⟩]; exact ((Classical.choose_spec (e_comp m m' ⟨h, h'⟩)).2 H).2
open Classical in
noncomputable def backF (m : List AV) : List AV := if h : KdsL KP m then Classical.choose (e_back m h) else zeroP
theorem backF_ok (m : List AV) : KdsL KP (backF m) := by
 unfold backF
 split
 ·
  rename_i h; exact (Classical.choose_spec (e_back m h)).1
 ·
  exact zeroP_ok
theorem k_BackPose (m : List AV) (h : KdsL KP m) (H : AHeap) : APure Try.prog 120 [.agg m] H (.agg (backF m)) := by
 unfold backF; rw [dif_pos h]; exact ((Classical.choose_spec (e_back m h)).2 H).1
theorem k_l06Back (m : List AV) (h : KdsL KP m) (H : AHeap) : APure Try.prog 119 [.agg m] H (.agg (backF m)) := by
 unfold backF; rw [dif_pos h]; exact ((Classical.choose_spec (e_back m h)).2 H).2
/-- What a link is off. -/
noncomputable def offF (ms : List (List AV)) (a b : Nat) (st : List AV) : List AV := betwF st (betwF (ms.getD a []) (ms.getD b []))
theorem offF_ok (ms : List (List AV)) (a b : Nat) (st : List AV) : KdsL KP (offF ms a b st) := betwF_ok _ _
def sqW (w : Option Nat) : List AV → Option Nat
 | [.flt _ a, .flt _ b, .flt _ c] => fop .mul .f32 w (fop .add .f32 (fop .add .f32 (fop .mul .f32 a a) (fop .mul .f32 b b)) (fop .mul .f32 c c))
 | _ => none
noncomputable def sqF (ms : List (List AV)) : List AV → Option Nat
 | [.int _ a, .int _ b, x, y, z, .flt _ w] => sqW w (offF ms a.toNat b.toNat [x, y, z])
 | _ => none
theorem sqF_ok (ms : List (List AV)) (m : List AV) : fOk .f32 (sqF ms m) := by
 unfold sqF
 split
 ·
  unfold sqW
  split
  ·
   exact fop_ok
  ·
   exact none_ok
 ·
  exact none_ok
noncomputable def costF (ms ks : List (List AV)) : Nat → Option Nat
 | 0 => some 0
 | i + 1 => fop .add .f32 (costF ms ks i) (sqF ms (ks.getD i []))
theorem zero_ok32 : fOk .f32 (some 0) := by intro b hb; cases hb; exact ⟨by decide, by decide +kernel⟩
theorem costF_ok (ms ks : List (List AV)) : ∀ i, fOk .f32 (costF ms ks i)
 | 0 => zero_ok32
 | i + 1 => fop_ok
/-- A link between poses that are there. -/
def LinkV (n : Nat) (m : List AV) : Prop := ∃ (a b : Nat) (x y z w : Option Nat), m = [.int .i64 (a : Int), .int .i64 (b : Int), .flt .f32 x, .flt .f32 y, .flt .f32 z, .flt .f32 w] ∧ fOk .f32 x ∧ fOk .f32 y ∧ fOk .f32 z ∧ fOk .f32 w ∧ a < n ∧ b < n ∧ a ≠ b
end Go.Proofs.Ytcmoeocemmeofaa
