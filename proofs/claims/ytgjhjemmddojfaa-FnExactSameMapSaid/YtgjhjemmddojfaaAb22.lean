/- Slices that hold lists. -/
import Derived.Test.YtgjhjemmddojfaaAb21
import Derived.Test.YtgjhjemmddojfaaAb17
set_option linter.unusedVariables false
set_option linter.unusedSimpArgs false
namespace Go.Ab

/-- The slice value holds these elements, each of so many cells. -/
inductive HoldsL {α : Type} (H : AHeap) (sz : Nat) (f : α → List AV) (xs : List α) : AV → Prop where
  | nil (h : xs = []) : HoldsL H sz f xs .nilslice
  | sl {l n cap : Nat} {wr : Bool} (hg : H.get l = some (.row (xs.flatMap f) wr)) (hn : xs.length = n) (hc : n ≤ cap) : HoldsL H sz f xs (.slice l 0 n cap sz)

theorem HoldsL.grew {α : Type} {H H' : AHeap} (g : Grew H H') {sz : Nat} {f : α → List AV} {xs : List α} {a : AV} (h : HoldsL H sz f xs a) : HoldsL H' sz f xs a := by
  cases h with
  | nil h => exact .nil h
  | sl hg hn hc => exact .sl (g.at hg) hn hc

/-- A byte. -/
def byteC (b : UInt8) : List AV := [.int .u8 b.toNat]
def intC (k : IntKind) (n : Int) : List AV := [.int k n]
def fltC (k : FloatKind) (x : Option Nat) : List AV := [.flt k x]

theorem flat_one {α : Type} (g : α → AV) : ∀ xs : List α, (xs.flatMap fun x => [g x]) = xs.map g
  | [] => rfl
  | x :: xs => by rw [List.flatMap_cons, flat_one g xs]; rfl

theorem flat_len {α : Type} {f : α → List AV} {sz : Nat} : ∀ {xs : List α}, (∀ x ∈ xs, (f x).length = sz) → (xs.flatMap f).length = xs.length * sz
  | [], _ => by simp
  | x :: xs, h => by
    rw [List.flatMap_cons, List.length_append, h x (by simp), flat_len fun y hy => h y (by simp [hy]), List.length_cons, Nat.succ_mul]
    omega
theorem flat_drop {α : Type} {f : α → List AV} {sz : Nat} : ∀ {xs : List α} {i : Nat}, (∀ x ∈ xs, (f x).length = sz) → (xs.flatMap f).drop (i * sz) = (xs.drop i).flatMap f
  | [], i, _ => by simp
  | x :: xs, 0, _ => by simp
  | x :: xs, i + 1, h => by
    have hx : (f x).length = sz := h x (by simp)
    rw [List.flatMap_cons, List.drop_append, List.drop_eq_nil_of_le (by rw [hx, Nat.succ_mul]; omega), List.nil_append, hx, show (i + 1) * sz - sz = i * sz by rw [Nat.succ_mul]; omega, flat_drop fun y hy => h y (by simp [hy]), List.drop_succ_cons]
/-- One element of a row. -/
theorem flat_part {α : Type} {f : α → List AV} {sz : Nat} {xs : List α} (h : ∀ x ∈ xs, (f x).length = sz) {i : Nat} (hi : i < xs.length) : ((xs.flatMap f).drop (i * sz)).take sz = f xs[i] := by
  rw [flat_drop h, List.drop_eq_getElem_cons hi, List.flatMap_cons, List.take_append, h _ (List.getElem_mem hi), Nat.sub_self, List.take_zero, List.append_nil, List.take_of_length_le (by rw [h _ (List.getElem_mem hi)]; omega)]
theorem part_agg {α : Type} {f : α → List AV} {sz : Nat} {xs : List α} (h : ∀ x ∈ xs, (f x).length = sz) {i : Nat} (hi : i < xs.length) : part true sz (i * sz) (xs.flatMap f) = some (.agg (f xs[i])) := by
  have hl := flat_len h
  have : i * sz + sz ≤ xs.length * sz := by rw [← Nat.succ_mul]; exact Nat.mul_le_mul_right _ hi
  unfold part
  rw [if_pos rfl, if_pos (by omega), flat_part h hi]
theorem part_one {α : Type} (g : α → AV) {xs : List α} {i : Nat} (hi : i < xs.length) : part false 1 i (xs.map g) = some (g xs[i]) := by
  simp [part, hi]
/-- The next cell of a row that is filled from the left. -/
theorem laid_fill {p : List AV} {z x : AV} {i m : Nat} (hp : p.length = i) : laid (p ++ List.replicate (m + 1) z) i [x] = (p ++ [x]) ++ List.replicate m z := by
  subst hp
  unfold laid
  rw [List.take_left, List.length_singleton, List.drop_append, List.drop_eq_nil_of_le (by omega), List.nil_append, show p.length + 1 - p.length = 1 by omega, List.replicate_succ, List.drop_succ_cons, List.drop_zero]
end Go.Ab
