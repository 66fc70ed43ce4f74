/- Slices among a law's arguments. -/
import Derived.Test.YtgjhjemmddojfaaSx11
set_option linter.unusedVariables false
set_option linter.unusedSimpArgs false
namespace Go.Ab
theorem kdsL_of_fits {H : AHeap} {es : List Sh} {ks : List Kd} (hk : es.mapM kdSh = some ks) {cs : List AV} (hl : cs.length = es.length) (h : ∀ (j : Nat) (s : Sh) (a : AV), es[j]? = some s → cs[j]? = some a → Fits H s a) : KdsL ks cs := fitsL_kds ⟨hl, h⟩ hk
theorem recs_of {H : AHeap} {es : List Sh} {ks : List Kd} (hk : es.mapM kdSh = some ks) : ∀ (n : Nat) {cs : List AV}, cs.length = n * es.length → (∀ i j s a, i < n → es[j]? = some s → cs[i * es.length + j]? = some a → Fits H s a) → ∃ ms, Recs ks ms ∧ ms.flatten = cs ∧ ms.length = n
  | 0, cs, hl, _ => ⟨[], fun m hm => (by cases hm), by simp at hl; simp [hl], rfl⟩
  | n + 1, cs, hl, h => by
    have h1 : KdsL ks (cs.take es.length) := by
      refine kdsL_of_fits (H := H) hk ?_ ?_
      · rw [List.length_take, hl, Nat.succ_mul]; omega
      · intro j s a hs ha
        have hj : j < es.length := by
          rcases Nat.lt_or_ge j es.length with h' | h'
          · exact h'
          · rw [List.getElem?_eq_none h'] at hs; cases hs
        rw [List.getElem?_take, if_pos hj] at ha
        exact h 0 j s a (by omega) hs (by simpa using ha)
    obtain ⟨ms, g1, g2, g3⟩ := recs_of hk n (cs := cs.drop es.length) (by rw [List.length_drop, hl, Nat.succ_mul]; omega) (fun i j s a hi hs ha => by
      rw [List.getElem?_drop] at ha
      exact h (i + 1) j s a (by omega) hs (by rw [Nat.succ_mul, show i * es.length + es.length + j = es.length + (i * es.length + j) by omega]; exact ha))
    refine ⟨cs.take es.length :: ms, ?_, ?_, by simp [g3]⟩
    · intro m hm
      rcases List.mem_cons.1 hm with rfl | hm
      · exact h1
      · exact g1 m hm
    · rw [List.flatten_cons, g2, List.take_append_drop]
/-- A slice among a law's arguments. -/
theorem slArg {H : AHeap} {es : List Sh} {ks : List Kd} {sz : Nat} {a : AV} (h : Fits H (.sl es) a) (hk : es.mapM kdSh = some ks) (hsz : es.length = sz) : ∃ ms, Recs ks ms ∧ SlL H sz ms a ∧ ms.length ≤ 9223372036854775807 := by
  subst hsz
  cases h with
  | nil => exact ⟨[], fun m hm => (by cases hm), .nil rfl, by simp⟩
  | @sl l len cap _ cs hg hl hc hm hf =>
    obtain ⟨ms, g1, g2, g3⟩ := recs_of hk len hl hf
    refine ⟨ms, g1, .sl (rest := []) (by rw [g2]; simpa using hg) g3 hc, ?_⟩
    have : maxLen = 9223372036854775807 := rfl
    omega
end Go.Ab
