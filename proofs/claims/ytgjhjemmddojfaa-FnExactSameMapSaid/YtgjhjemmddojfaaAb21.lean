/- Floats: what compares with itself; bits that are well formed. -/
import Derived.Test.YtgjhjemmddojfaaAb20
set_option linter.unusedVariables false
set_option linter.unusedSimpArgs false
namespace Go.Ab

/-- A float's bits: no NaN's, and they fit. -/
def fOk (k : FloatKind) (x : Option Nat) : Prop := ∀ b, x = some b → b < 2 ^ k.format.width ∧ (k.decode b).isNaN = false

theorem order_self {d : Ieee.Datum} (h : d.isNaN = false) : d.order d = some .eq := by
  cases d with
  | nan s t => cases h
  | infinity s => cases s <;> rfl
  | number s m e => simp [Ieee.Datum.order]

theorem ford_self {k : FloatKind} {x : Option Nat} (h : fOk k x) : (ford k x x == some .eq) = x.isSome := by
  cases x with
  | none => rfl
  | some b =>
    have := order_self (h b rfl).2
    show (k.format.order b b == some .eq) = true
    unfold Ieee.Format.order
    have e : (k.format.read b).order (k.format.read b) = some .eq := this
    rw [e]; rfl
theorem ford_self' {k : FloatKind} {x : Option Nat} (h : fOk k x) : (ford k x x != some .eq) = x.isNone := by
  have := ford_self h
  unfold bne
  rw [this]
  cases x <;> rfl
theorem nrm_fOk {k : FloatKind} {b : Nat} (h : b < 2 ^ k.format.width) : fOk k (nrm k b) := by
  intro c hc
  obtain ⟨rfl, h2⟩ := nrm_some hc
  exact ⟨h, h2⟩
theorem fOk_nrm {x : Option Nat} {b : Nat} (h : fOk .f32 x) (hx : x = some b) : nrm .f32 b = some b ∧ b < 4294967296 := by
  obtain ⟨h1, h2⟩ := h b hx
  unfold nrm
  rw [h2]
  exact ⟨rfl, h1⟩
theorem bits32_eq {x y : Option Nat} (hx : fOk .f32 x) (hy : fOk .f32 y) (h : ¬ (x = none ∧ y = none)) : binA .eql (bits32 x) (bits32 y) = some (.bool (decide (x = y))) := by
  cases x with
  | none =>
    cases y with
    | none => exact absurd ⟨rfl, rfl⟩ h
    | some b =>
      obtain ⟨h1, h2⟩ := fOk_nrm hy rfl
      simp only [bits32, binA]
      rw [if_pos ⟨by rw [Int.toNat_natCast, h1]; simp, by omega, by omega⟩]
      simp
  | some a =>
    cases y with
    | none =>
      obtain ⟨h1, h2⟩ := fOk_nrm hx rfl
      simp only [bits32, binA]
      rw [if_pos ⟨by rw [Int.toNat_natCast, h1]; simp, by omega, by omega⟩]
      simp
    | some b =>
      simp only [bits32, binA, if_true]
      congr 2
      simp
      exact Int.ofNat_inj
end Go.Ab
