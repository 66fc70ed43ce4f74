/- What the model's float operations come to when a NaN's bits are forgotten. -/
import Derived.Test.YtgjhjemmddojfaaAb1
set_option linter.unusedVariables false
set_option linter.unusedSimpArgs false
namespace Go.Ab
open Ieee

theorem read_word_nan (f : Format) (neg : Bool) {rung : Nat} (h : rung ≤ f.infRung) : (f.read (f.word neg rung)).isNaN = false := by
  have hlt := f.infRung_lt
  have hpos : 0 < f.signWeight := Nat.two_pow_pos _
  have hm : f.word neg rung % f.signWeight = rung := by
    unfold Format.word
    split
    · rw [Nat.add_mod_left, Nat.mod_eq_of_lt (by omega)]
    · exact Nat.mod_eq_of_lt (by omega)
  unfold Format.read
  simp only [hm]
  split
  · rfl
  · split
    · rfl
    · rw [if_pos (by omega)]; rfl

theorem read_write_nan (f : Format) {d : Datum} (h : d.isNaN = false) : (f.read (f.write d)).isNaN = false := by
  cases d with
  | number neg mag place =>
    unfold Format.write Format.nearest
    dsimp only
    split
    · exact read_word_nan f neg (Nat.zero_le _)
    · exact read_word_nan f neg (Nat.min_le_right ..)
  | infinity neg => exact read_word_nan f neg (Nat.le_refl _)
  | nan neg fr => cases h

theorem sum_nan {a b d : Datum} (h : a.sum b = some d) : d.isNaN = false := by
  unfold Datum.sum at h
  split at h
  · cases h
  · cases h
  · split at h
    · cases h; rfl
    · cases h
  · cases h; rfl
  · cases h; rfl
  · cases h; rfl
theorem product_nan {a b d : Datum} (h : a.product b = some d) : d.isNaN = false := by
  unfold Datum.product at h
  split at h
  · cases h
  · cases h
  · cases h; rfl
  · split at h
    · cases h
    · cases h; rfl
  · split at h
    · cases h
    · cases h; rfl
  · cases h; rfl
theorem quotient_nan {n : Nat} {a b d : Datum} (h : a.quotient n b = some d) : d.isNaN = false := by
  unfold Datum.quotient at h
  split at h
  · cases h
  · cases h
  · cases h
  · cases h; rfl
  · cases h; rfl
  · split at h
    · split at h
      · cases h
      · cases h; rfl
    · cases h; rfl
theorem root_nan {n : Nat} {a d : Datum} (h : a.root n = some d) : d.isNaN = false := by
  unfold Datum.root at h
  split at h
  · cases h
  · split at h
    · cases h
    · cases h; rfl
  · split at h
    · cases h; rfl
    · split at h
      · cases h
      · cases h; rfl

theorem nrm_write (k : FloatKind) {d : Datum} (h : d.isNaN = false) : nrm k (k.encode d) = some (k.encode d) := by
  unfold nrm FloatKind.encode FloatKind.decode
  rw [read_write_nan _ h]; rfl

theorem nrm_map_write (k : FloatKind) {o : Option Datum} (h : ∀ d, o = some d → d.isNaN = false) {r : Nat} (hr : o.map k.format.write = some r) : nrm k r = some r := by
  cases o with
  | none => cases hr
  | some d => cases hr; exact nrm_write k (h d rfl)

theorem nrm_floatBits {op : BinOp} {k : FloatKind} {x y r : Nat} (h : floatBits op k x y = some r) : nrm k r = some r := by
  unfold floatBits at h
  split at h
  · exact nrm_map_write k (fun d hd => sum_nan hd) h
  · exact nrm_map_write k (fun d hd => sum_nan hd) h
  · exact nrm_map_write k (fun d hd => product_nan hd) h
  · exact nrm_map_write k (fun d hd => quotient_nan hd) h
  · cases h

theorem sqrt_nrm {k : FloatKind} {x r : Nat} (h : k.format.sqrt x = some r) : nrm k r = some r := nrm_map_write k (fun d hd => root_nan hd) h

theorem nrm_some {k : FloatKind} {b x : Nat} (h : nrm k b = some x) : x = b ∧ (k.decode b).isNaN = false := by
  unfold nrm at h
  split at h
  · cases h
  · rename_i hn; cases h; exact ⟨rfl, by simpa using hn⟩
theorem nrm_none {k : FloatKind} {b : Nat} (h : nrm k b = none) : (k.decode b).isNaN = true := by
  unfold nrm at h
  split at h
  · assumption
  · cases h

theorem isNaN_form {d : Datum} (h : d.isNaN = true) : ∃ s t, d = .nan s t := by
  cases d with
  | nan s t => exact ⟨s, t, rfl⟩
  | number => cases h
  | infinity => cases h

/-- Arithmetic, a NaN's bits forgotten. -/
def fop (op : BinOp) (k : FloatKind) (x y : Option Nat) : Option Nat :=
  match x, y with
  | some a, some b => floatBits op k a b
  | _, _ => none
/-- How two floats stand to each other; nothing where one is a NaN. -/
def ford (k : FloatKind) (x y : Option Nat) : Option Ordering :=
  match x, y with
  | some a, some b => k.format.order a b
  | _, _ => none

theorem sum_left_nan {a b : Datum} (h : a.isNaN = true) : a.sum b = none := by obtain ⟨s, t, rfl⟩ := isNaN_form h; rfl
theorem sum_right_nan {a b : Datum} (h : b.isNaN = true) : a.sum b = none := by obtain ⟨s, t, rfl⟩ := isNaN_form h; cases a <;> rfl
theorem product_left_nan {a b : Datum} (h : a.isNaN = true) : a.product b = none := by obtain ⟨s, t, rfl⟩ := isNaN_form h; rfl
theorem product_right_nan {a b : Datum} (h : b.isNaN = true) : a.product b = none := by obtain ⟨s, t, rfl⟩ := isNaN_form h; cases a <;> rfl
theorem quotient_left_nan {n : Nat} {a b : Datum} (h : a.isNaN = true) : a.quotient n b = none := by obtain ⟨s, t, rfl⟩ := isNaN_form h; rfl
theorem quotient_right_nan {n : Nat} {a b : Datum} (h : b.isNaN = true) : a.quotient n b = none := by obtain ⟨s, t, rfl⟩ := isNaN_form h; cases a <;> rfl
theorem order_left_nan {a b : Datum} (h : a.isNaN = true) : a.order b = none := by obtain ⟨s, t, rfl⟩ := isNaN_form h; rfl
theorem order_right_nan {a b : Datum} (h : b.isNaN = true) : a.order b = none := by obtain ⟨s, t, rfl⟩ := isNaN_form h; cases a <;> rfl
theorem opposite_nan {a : Datum} : a.opposite.isNaN = a.isNaN := by cases a <;> rfl

theorem floatBits_nan {op : BinOp} {k : FloatKind} {x y : Nat} (h : nrm k x = none ∨ nrm k y = none) : floatBits op k x y = none := by
  have h' : (k.format.read x).isNaN = true ∨ (k.format.read y).isNaN = true := h.imp nrm_none nrm_none
  unfold floatBits Format.add Format.sub Format.mul Format.div
  split
  · rcases h' with h' | h'
    · rw [sum_left_nan h']; rfl
    · rw [sum_right_nan h']; rfl
  · rcases h' with h' | h'
    · rw [sum_left_nan h']; rfl
    · rw [sum_right_nan (by rw [opposite_nan]; exact h')]; rfl
  · rcases h' with h' | h'
    · rw [product_left_nan h']; rfl
    · rw [product_right_nan h']; rfl
  · rcases h' with h' | h'
    · rw [quotient_left_nan h']; rfl
    · rw [quotient_right_nan h']; rfl
  · rfl

theorem fop_nrm (op : BinOp) (k : FloatKind) (x y : Nat) : fop op k (nrm k x) (nrm k y) = floatBits op k x y := by
  cases hx : nrm k x with
  | none => rw [floatBits_nan (.inl hx)]; rfl
  | some a =>
    cases hy : nrm k y with
    | none => rw [floatBits_nan (.inr hy)]; rfl
    | some b => rw [(nrm_some hx).1, (nrm_some hy).1]; rfl

theorem ford_nrm (k : FloatKind) (x y : Nat) : ford k (nrm k x) (nrm k y) = k.format.order x y := by
  unfold Format.order
  cases hx : nrm k x with
  | none => rw [order_left_nan (a := k.format.read x) (nrm_none hx)]; rfl
  | some a =>
    cases hy : nrm k y with
    | none => rw [order_right_nan (b := k.format.read y) (nrm_none hy)]; rfl
    | some b => rw [(nrm_some hx).1, (nrm_some hy).1]; rfl

/-- The bits that the tape gives where a NaN is asked of it. -/
theorem nan32 (t : Nat) : nrm .f32 ((t % 2) * 2 ^ 31 + 0x7f800000 + 1 + (t / 2) % (2 ^ 23 - 1)) = none ∧ (t % 2) * 2 ^ 31 + 0x7f800000 + 1 + (t / 2) % (2 ^ 23 - 1) < 2 ^ FloatKind.f32.format.width := by
  generalize hb : (t % 2) * 2 ^ 31 + 0x7f800000 + 1 + (t / 2) % (2 ^ 23 - 1) = b
  have hs : Format.signWeight single = 2147483648 := rfl
  have hi : Format.infRung single = 2139095040 := rfl
  have hw : FloatKind.f32.format.width = 32 := rfl
  have hm : b % 2147483648 = 0x7f800000 + 1 + (t / 2) % (2 ^ 23 - 1) := by omega
  refine ⟨?_, by rw [hw]; omega⟩
  have hbin : Format.binade single = 8388608 := rfl
  have h : (FloatKind.f32.decode b).isNaN = true := by
    unfold FloatKind.decode FloatKind.format Format.read
    simp only [hs, hi, hm, hbin]
    rw [if_neg (by omega), if_neg (by omega), if_neg (by omega)]
    rfl
  unfold nrm; rw [h]; rfl
theorem nan64 (t : Nat) : nrm .f64 ((t % 2) * 2 ^ 63 + 0x7ff0000000000000 + 1 + (t / 2) % (2 ^ 52 - 1)) = none ∧ (t % 2) * 2 ^ 63 + 0x7ff0000000000000 + 1 + (t / 2) % (2 ^ 52 - 1) < 2 ^ FloatKind.f64.format.width := by
  generalize hb : (t % 2) * 2 ^ 63 + 0x7ff0000000000000 + 1 + (t / 2) % (2 ^ 52 - 1) = b
  have hs : Format.signWeight double = 9223372036854775808 := rfl
  have hi : Format.infRung double = 9218868437227405312 := rfl
  have hw : FloatKind.f64.format.width = 64 := rfl
  have hm : b % 9223372036854775808 = 0x7ff0000000000000 + 1 + (t / 2) % (2 ^ 52 - 1) := by omega
  refine ⟨?_, by rw [hw]; omega⟩
  have hbin : Format.binade double = 4503599627370496 := rfl
  have h : (FloatKind.f64.decode b).isNaN = true := by
    unfold FloatKind.decode FloatKind.format Format.read
    simp only [hs, hi, hm, hbin]
    rw [if_neg (by omega), if_neg (by omega), if_neg (by omega)]
    rfl
  unfold nrm; rw [h]; rfl
theorem nan_cut (k : FloatKind) (x y t : Nat) : nrm k ((Question.nanBits k x y).cut t) = none ∧ (Question.nanBits k x y).cut t < 2 ^ k.format.width := by
  cases k
  · exact nan32 t
  · exact nan64 t
theorem nanConv_cut (k : FloatKind) (x t : Nat) : nrm k ((Question.nanConv k x).cut t) = none ∧ (Question.nanConv k x).cut t < 2 ^ k.format.width := by
  cases k
  · exact nan32 t
  · exact nan64 t
theorem nanMinMax_cut (k : FloatKind) (m : Bool) (x y t : Nat) : nrm k ((Question.nanMinMax k m x y).cut t) = none ∧ (Question.nanMinMax k m x y).cut t < 2 ^ k.format.width := by
  cases k
  · exact nan32 t
  · exact nan64 t

/-- The least world relation of a step that at most draws. -/
def Drew (w w' : World) : Prop := w' = w ∨ ∃ n, w' = { w with drawn := n }

section
variable {P : Program} {w : World}

theorem run_choose (q : Question) (hq : q.forced = false) : (choose q).run P w = .ok (q.cut (w.tape w.drawn q)) { w with drawn := w.drawn + 1 } := by
  simp [choose, Sem.run, hq]

theorem bind_run {α β : Type} (s : Sem α) (f : α → Sem β) (w : World) : (s >>= f).run P w = match s.run P w with
    | .ok a w' => (f a).run P w'
    | .halt h w' => .halt h w' := by
  show (s.bind f).run P w = _
  induction s generalizing w with
  | pure a => rfl
  | load m a k ih =>
    simp only [Sem.bind, Sem.run]
    split
    · exact ih _ _
    · split
      · exact ih _ _
      · rfl
  | store m a v k ih =>
    simp only [Sem.bind]
    cases v <;> first | rfl | (simp only [Sem.run]; split <;> (split <;> first | rfl | exact ih _))
  | new o k ih => exact ih _ _
  | shape r k ih => exact ih _ _
  | freeze a n k ih => exact ih _
  | frozen a k ih => exact ih _ _
  | getObj r k ih =>
    simp only [Sem.bind, Sem.run]
    split
    · rfl
    · exact ih _ _
    · rfl
  | setObj r o k ih =>
    simp only [Sem.bind, Sem.run]
    split
    · rfl
    · exact ih _
    · rfl
  | choose q k ih =>
    simp only [Sem.bind, Sem.run]
    split
    · exact ih _ _
    · exact ih _ _
  | sys c k ih => exact ih _ _
  | program k ih => exact ih _ _
  | mark m k ih => exact ih _
  | halt h => rfl

theorem bind_ok {α β : Type} {s : Sem α} {f : α → Sem β} {w w' : World} {a : α} (h : s.run P w = .ok a w') : (s >>= f).run P w = (f a).run P w' := by
  rw [bind_run, h]

theorem run_floatArith (op : BinOp) (k : FloatKind) (x y : Nat) (hop : op = .add ∨ op = .sub ∨ op = .mul ∨ op = .quo) :
    ∃ r w', (Op.floatArith op k x y).run P w = .ok (.float k r) w' ∧ Drew w w' ∧ nrm k r = fop op k (nrm k x) (nrm k y) ∧ r < 2 ^ k.format.width := by
  rw [fop_nrm]
  cases hf : floatBits op k x y with
  | some r =>
    refine ⟨r, w, ?_, .inl rfl, nrm_floatBits hf, ?_⟩
    · unfold floatBits at hf
      rcases hop with rfl | rfl | rfl | rfl <;> simp only at hf <;> simp [Op.floatArith, hf]
    · have := floatBits_wf hf
      cases k
      · exact (show r < 4294967296 by simpa [Lit.wf] using this)
      · exact (show r < 18446744073709551616 by simpa [Lit.wf] using this)
  | none =>
    refine ⟨_, _, ?_, .inr ⟨w.drawn + 1, rfl⟩, (nan_cut k x y (w.tape w.drawn (.nanBits k x y))).1, (nan_cut k x y (w.tape w.drawn (.nanBits k x y))).2⟩
    unfold floatBits at hf
    have hc := run_choose (P := P) (w := w) (.nanBits k x y) rfl
    rcases hop with rfl | rfl | rfl | rfl <;> simp only at hf <;> simp [Op.floatArith, hf, hc]
end
end Go.Ab
