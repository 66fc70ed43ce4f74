/- Walks of functions of the given program, by the theory of the texts Ab. -/
import Derived.Test.YtfibebhnjfebbaaW9
import Derived.Test.YtfibebhnjfebbaaAb17
set_option linter.unusedVariables false
set_option linter.unusedSimpArgs false
namespace Go.Proofs.Ytfibebhnjfebbaa
open Go.Ab Go.ChangeShapes Go.WideShapes Go.ChangeAt Go.RowKit
theorem own4 : ownKnob Try.prog.godebug = none := by kernel_rfl
theorem laid4 : laidOutB Try.prog = true := by kernel_rfl
theorem bytesOf {H : AHeap} {cs : List AV} {n : Nat} (hl : cs.length = n * 1) (h : ∀ i j s a, i < n → [Sh.int .u8][j]? = some s → cs[i * 1 + j]? = some a → Fits H s a) : ∃ ns : List Int, cs = ns.map (AV.int .u8) ∧ ns.length = n := by
  have : ∀ c ∈ cs, ∃ m : Int, c = .int .u8 m := by
    intro c hc
    obtain ⟨i, hi, rfl⟩ := List.getElem_of_mem hc
    have hf := h i 0 (.int .u8) cs[i] (by omega) rfl (by simp [hi])
    generalize cs[i] = x at hf
    cases hf
    exact ⟨_, rfl⟩
  clear h
  induction cs generalizing n with
  | nil => exact ⟨[], rfl, by simpa using hl⟩
  | cons c cs ih =>
    obtain ⟨m, rfl⟩ := this c (by simp)
    obtain ⟨ns, rfl, hn⟩ := ih (n := n - 1) (by simp at hl ⊢; omega) (fun c hc => this c (by simp [hc]))
    exact ⟨m :: ns, rfl, by simp at hl ⊢; omega⟩
theorem gridArg {H : AHeap} {a : AV} (h : FitArg H (true, [.int .i64, .int .i64, .sl [.int .u8]]) a) : ∃ (w hh : Int) (ns : List Int) (S : AV), a = .agg [.int .i64 w, .int .i64 hh, S] ∧ Row1 H (ns.map (AV.int .u8)) S ∧ ns.length ≤ 9223372036854775807 := by
  obtain ⟨cs, rfl, hl, hc⟩ := h
  match cs, hl with
  | [c0, c1, c2], _ =>
    have h0 := hc 0 _ _ rfl rfl
    have h1 := hc 1 _ _ rfl rfl
    have h2 := hc 2 _ _ rfl rfl
    cases h0
    cases h1
    cases h2 with
    | nil => exact ⟨_, _, [], _, rfl, .inl ⟨rfl, rfl⟩, by simp⟩
    | @sl l n cap _ row hg hl' hc' hm hf =>
      obtain ⟨ns, rfl, hn⟩ := bytesOf hl' hf
      refine ⟨_, _, ns, _, rfl, .inr ⟨l, n, cap, false, rfl, by simpa using hn, hg⟩, ?_⟩
      have : maxLen = 9223372036854775807 := rfl
      omega
theorem args1 {H : AHeap} {p : Bool × List Sh} {vs : List AV} (h : FitArgs H [p] vs) : ∃ a, vs = [a] ∧ FitArg H p a := by
  match vs, h with
  | [a], h => exact ⟨a, rfl, h.1⟩
set_option maxRecDepth 100000 in
theorem liftedValidGrid (os : Os) (started : os.Started) (H : Type) (enc : TypeId × Value → H) :
    ReturnsInHanded {} Try.checked os 6 .any (Rows.fnExactValidGridSpec.pre6 enc Try.prog Try.f6 Rows.fnExactValidGridRow.domain false) (Rows.fnExactValidGridSpec.post enc Try.prog Try.f6 false true false false) := by
  refine returnsInHanded_of_change (C := Try.checked) own4 started (by kernel_rfl) Try.func6
    (ChangeSpec.witness6 (enc := enc) (C := Try.checked) false ⟨#[], #[.agg #[.int .i64 0, .int .i64 0, .slice none 0 0]], []⟩ 8 (by kernel_rfl) (by kernel_rfl) (by kernel_rfl) (by kernel_rfl)) ?_
  intro W base args ds gs before hval hW _ _
  refine law_contract (P := Try.prog) h_laws_FnExactValidGrid hW rfl hval laid4 (by kernel_rfl) (fun ds h => ?_) (tb := 4) (by kernel_rfl) (by kernel_rfl) (xs := [(true, [.int .i64, .int .i64, .sl [.int .u8]])]) (by kernel_rfl) (fun H vs h => ?_)
  · match ds, h with
    | [d], _ => exact ⟨rfl, rfl, rfl⟩
  · obtain ⟨a, rfl, ha⟩ := args1 h
    obtain ⟨w, hh, ns, S, rfl, hS, hn⟩ := gridArg ha
    exact k_lawValidGrid H w hh ns S hS hn
theorem overValidGrid : Rows.fnExactValidGridRow.holds Try.pinned (OpenSpec.ofChange Rows.fnExactValidGridSpec) :=
  OpenClaim.holds_of_wide 6 Try.f6 rfl rfl rfl rfl rfl rfl rfl ⟨rfl, rfl, rfl, rfl, rfl⟩ rfl rfl rfl rfl rfl (by kernel_rfl) Try.func6 (by kernel_rfl)
    (of_decide_eq_true (by kernel_rfl)) (by unfold Func.isWrapper; rw [if_neg (of_decide_eq_false (by kernel_rfl))]; exact ⟨rfl, rfl⟩)
    (fun os started H enc _ => liftedValidGrid os started H enc)
theorem provedValidGrid : Rows.FnExactValidGridSaid := overValidGrid
#print axioms provedValidGrid
end Go.Proofs.Ytfibebhnjfebbaa
