/- Floats: bounds of results; narrowing. -/
import Derived.Test.YtgjhjemmddojfaaSxA
import Derived.Test.YtgjhjemmddojfaaAbD
import Derived.Test.YtgjhjemmddojfaaSxD
import Derived.Test.YtgjhjemmddojfaaSxC
set_option linter.unusedVariables false
set_option linter.unusedSimpArgs false
section
namespace Go.Ab
open Ieee
/-- What is not too great is written in single precision as a number. -/
theorem f32_fin {s : Bool} {m : Nat} {e : Int} (h : LeP m e 126) : (FloatKind.f32.decode (FloatKind.f32.encode (.number s m e))).isInfinity = false := by
  have hb : Format.binade single = 8388608 := rfl
  have hi : Format.infRung single = 2139095040 := rfl
  have hl : Format.leastPlace single = -149 := rfl
  have hf : single.fractionBits = 23 := rfl
  show (Format.read single (Format.nearest single s m e)).isInfinity = false
  by_cases h0 : m = 0
  · subst h0
    show (Format.read single (single.word s 0)).isInfinity = false
    cases s <;> decide +kernel
  · have hlog := h.log h0
    have hhi : m < 2 ^ (m.log2 + 1) := Nat.lt_log2_self
    obtain ⟨L, hL⟩ : ∃ L : Int, L = max (e + m.log2 - 23) (-149) := ⟨_, rfl⟩
    obtain ⟨kept, hk⟩ : ∃ kept, kept = Toward.even.cut s (m <<< (e - L).toNat) (L - e).toNat := ⟨_, rfl⟩
    have hkle : kept ≤ 2 ^ 24 := by
      rw [hk]
      refine cut_le ?_
      rw [Nat.shiftLeft_eq]
      have h1 : m * 2 ^ (e - L).toNat ≤ 2 ^ (m.log2 + 1 + (e - L).toNat) := by
        rw [Nat.pow_add]; exact Nat.mul_le_mul_right _ (Nat.le_of_lt hhi)
      refine Nat.le_trans h1 ?_
      rw [← Nat.pow_add]
      refine Nat.pow_le_pow_right (by decide) ?_
      omega
    simp only [Nat.reducePow] at hkle
    have hr : (L + 149).toNat * 8388608 + kept < 2139095040 := by omega
    have hw : Format.nearest single s m e = single.word s ((L + 149).toNat * 8388608 + kept) := by
      unfold Format.nearest
      rw [if_neg h0]
      simp only [hf, hl, hb, hi]
      rw [show max (e + (m.log2 : Int) - ((23 : Nat) : Int)) (-149) = L from hL.symm, ← hk, show L - -149 = L + 149 by omega]
      rw [Nat.min_eq_left (Nat.le_of_lt hr)]
    rw [hw, read_num single s (by rw [hi]; exact hr)]
    split <;> rfl
/-- A double that is a number of at most 2 ^ b. -/
def Bnd (x : Option Nat) (b : Nat) : Prop := ∃ w s m e, x = some w ∧ w < 2 ^ 64 ∧ FloatKind.f64.decode w = .number s m e ∧ LeP m e b
theorem Bnd.mono {x : Option Nat} {b c : Nat} (h : Bnd x b) (hc : b ≤ c) : Bnd x c := by
  obtain ⟨w, s, m, e, h1, h2, h3, h4⟩ := h
  exact ⟨w, s, m, e, h1, h2, h3, h4.mono hc⟩
theorem Bnd.ok {x : Option Nat} {b : Nat} (h : Bnd x b) : fOk .f64 x := by
  obtain ⟨w, s, m, e, rfl, h2, h3, h4⟩ := h
  intro c hc
  cases hc
  exact ⟨h2, by rw [h3]; rfl⟩
/-- A number that is not too great, written. -/
theorem Bnd.of {s : Bool} {m : Nat} {e : Int} {b : Nat} (h : LeP m e b) (hb : b ≤ 1022) : Bnd (some (FloatKind.f64.encode (.number s m e))) b := by
  obtain ⟨m', e', h1, h2, _⟩ := write_le (s := s) h hb
  exact ⟨_, s, m', e', rfl, FloatKind.f64.format.write_lt _, h1, h2⟩
/-- Narrowing gives a number. -/
theorem Bnd.narrow {x : Option Nat} {b : Nat} (h : Bnd x b) (hb : b ≤ 126) : ∃ y, f2f .f64 x .f32 = some y ∧ fOk .f32 y := by
  obtain ⟨w, s, m, e, rfl, h2, h3, h4⟩ := h
  have hf := f32_fin (s := s) (h4.mono hb)
  refine ⟨some (FloatKind.f32.encode (.number s m e)), ?_, ?_⟩
  · show (floatToFloatBits .f64 w .f32).map some = _
    unfold floatToFloatBits
    rw [if_neg (by decide), h3]
    simp only []
    rw [hf]; rfl
  · intro c hc
    cases hc
    exact ⟨FloatKind.f32.format.write_lt _, (nrm_some (nrm_write .f32 (d := .number _ _ _) rfl)).2⟩
theorem LeP.prod {m n : Nat} {i j : Int} {a b : Nat} (h : LeP m i a) (k : LeP n j b) : LeP (m * n) (i + j) (a + b) := by
  have h1 := h (-i).toNat (by omega)
  have k1 := k (-j).toNat (by omega)
  refine lep_of (K := (-i).toNat + (-j).toNat) (by omega) ?_
  unfold V at *
  have e1 : (i + j + (((-i).toNat + (-j).toNat : Nat) : Int)).toNat = (i + ((-i).toNat : Int)).toNat + (j + ((-j).toNat : Int)).toNat := by omega
  rw [e1, Nat.pow_add, show m * n * (2 ^ (i + ((-i).toNat : Int)).toNat * 2 ^ (j + ((-j).toNat : Int)).toNat) = (m * 2 ^ (i + ((-i).toNat : Int)).toNat) * (n * 2 ^ (j + ((-j).toNat : Int)).toNat) by
    rw [Nat.mul_mul_mul_comm]]
  refine Nat.le_trans (Nat.mul_le_mul h1 k1) ?_
  rw [← Nat.pow_add]
  exact Nat.pow_le_pow_right (by decide) (by omega)
theorem Bnd.mul {x y : Option Nat} {a b : Nat} (h : Bnd x a) (k : Bnd y b) (hab : a + b ≤ 1022) : Bnd (fop .mul .f64 x y) (a + b) := by
  obtain ⟨w, s, m, i, rfl, h2, h3, h4⟩ := h
  obtain ⟨v, t, n, j, rfl, k2, k3, k4⟩ := k
  have : fop .mul .f64 (some w) (some v) = some (FloatKind.f64.encode (.number (s ^^ t) (m * n) (i + j))) := by
    show ((Format.read _ w).product (Format.read _ v)).map _ = _
    rw [show Format.read FloatKind.f64.format w = .number s m i from h3, show Format.read FloatKind.f64.format v = .number t n j from k3]
    rfl
  rw [this]
  exact Bnd.of (h4.prod k4) hab
theorem signed_abs (s : Bool) (m k : Nat) : (signed s m k).natAbs = m * 2 ^ k := by
  unfold signed
  cases s
  · exact (Int.natAbs_natCast _).trans (Nat.shiftLeft_eq _ _)
  · exact (Int.natAbs_neg _).trans ((Int.natAbs_natCast _).trans (Nat.shiftLeft_eq _ _))
theorem LeP.summ {s t : Bool} {m n : Nat} {i j : Int} {a b c : Nat} (h : LeP m i a) (k : LeP n j b) (ha : a < c) (hb : b < c) : LeP (signed s m (i - min i j).toNat + signed t n (j - min i j).toNat).natAbs (min i j) c := by
  obtain ⟨K, hK⟩ : ∃ K : Nat, K = (-i).toNat + (-j).toNat := ⟨_, rfl⟩
  have h1 := h K (by omega)
  have k1 := k K (by omega)
  refine lep_of (K := K) (by omega) ?_
  unfold V at *
  have e := Int.natAbs_add_le (signed s m (i - min i j).toNat) (signed t n (j - min i j).toNat)
  rw [signed_abs, signed_abs] at e
  refine Nat.le_trans (Nat.mul_le_mul_right _ e) ?_
  rw [Nat.add_mul, Nat.mul_assoc, Nat.mul_assoc, ← Nat.pow_add, ← Nat.pow_add, show (i - min i j).toNat + (min i j + (K : Int)).toNat = (i + K).toNat by omega, show (j - min i j).toNat + (min i j + (K : Int)).toNat = (j + K).toNat by omega]
  have p1 : 2 ^ (a + K) ≤ 2 ^ (c - 1 + K) := Nat.pow_le_pow_right (by decide) (by omega)
  have p2 : 2 ^ (b + K) ≤ 2 ^ (c - 1 + K) := Nat.pow_le_pow_right (by decide) (by omega)
  have p3 : 2 ^ (c + K) = 2 ^ (c - 1 + K) * 2 := by rw [← Nat.pow_succ]; congr 1; omega
  omega
theorem Bnd.sub {x y : Option Nat} {a b c : Nat} (h : Bnd x a) (k : Bnd y b) (ha : a < c) (hb : b < c) (hc : c ≤ 1022) : Bnd (fop .sub .f64 x y) c := by
  obtain ⟨w, s, m, i, rfl, h2, h3, h4⟩ := h
  obtain ⟨v, t, n, j, rfl, k2, k3, k4⟩ := k
  have : fop .sub .f64 (some w) (some v) = some (FloatKind.f64.encode (.number (if signed s m (i - min i j).toNat + signed (!t) n (j - min i j).toNat = 0 then s && !t else signed s m (i - min i j).toNat + signed (!t) n (j - min i j).toNat < 0) (signed s m (i - min i j).toNat + signed (!t) n (j - min i j).toNat).natAbs (min i j))) := by
    show ((Format.read _ w).sum (Format.read _ v).opposite).map _ = _
    rw [show Format.read FloatKind.f64.format w = .number s m i from h3, show Format.read FloatKind.f64.format v = .number t n j from k3]
    rfl
  rw [this]
  exact Bnd.of (h4.summ k4 ha hb) hc
theorem Bnd.add {x y : Option Nat} {a b c : Nat} (h : Bnd x a) (k : Bnd y b) (ha : a < c) (hb : b < c) (hc : c ≤ 1022) : Bnd (fop .add .f64 x y) c := by
  obtain ⟨w, s, m, i, rfl, h2, h3, h4⟩ := h
  obtain ⟨v, t, n, j, rfl, k2, k3, k4⟩ := k
  have : fop .add .f64 (some w) (some v) = some (FloatKind.f64.encode (.number (if signed s m (i - min i j).toNat + signed t n (j - min i j).toNat = 0 then s && t else signed s m (i - min i j).toNat + signed t n (j - min i j).toNat < 0) (signed s m (i - min i j).toNat + signed t n (j - min i j).toNat).natAbs (min i j))) := by
    show ((Format.read _ w).sum (Format.read _ v)).map _ = _
    rw [show Format.read FloatKind.f64.format w = .number s m i from h3, show Format.read FloatKind.f64.format v = .number t n j from k3]
    rfl
  rw [this]
  exact Bnd.of (h4.summ k4 ha hb) hc
/-- Dividing by a number that is at least 1. -/
theorem Bnd.quo {x : Option Nat} {a v n : Nat} {t : Bool} {j : Int} (h : Bnd x a) (k3 : FloatKind.f64.decode v = .number t n j) (hn : n ≠ 0) (h1 : ∀ K : Nat, 0 ≤ j + K → 2 ^ K ≤ n * 2 ^ (j + K).toNat) (ha : a + 1 ≤ 1022) : Bnd (fop .quo .f64 x (some v)) (a + 1) := by
  obtain ⟨w, s, m, i, rfl, h2, h3, h4⟩ := h
  obtain ⟨more, hmore⟩ : ∃ more, more = 54 + n.log2 - m.log2 := ⟨_, rfl⟩
  have : fop .quo .f64 (some w) (some v) = some (FloatKind.f64.encode (.number (s ^^ t) (2 * (m <<< more / n) + (m <<< more % n != 0).toNat) (i - j - more - 1))) := by
    show ((Format.read _ w).quotient _ (Format.read _ v)).map _ = _
    rw [show Format.read FloatKind.f64.format w = .number s m i from h3, show Format.read FloatKind.f64.format v = .number t n j from k3]
    show (if n = 0 then _ else _ : Option Datum).map _ = _
    rw [if_neg hn, hmore]
    rfl
  rw [this]
  refine Bnd.of ?_ ha
  obtain ⟨K1, hK1⟩ : ∃ K1 : Nat, K1 = (-(i - j - more - 1)).toNat := ⟨_, rfl⟩
  obtain ⟨K2, hK2⟩ : ∃ K2 : Nat, K2 = (-j).toNat + (-(i - more - 1)).toNat + (-i).toNat := ⟨_, rfl⟩
  refine lep_of (K := K1) (by omega) ?_
  unfold V
  have hv := h4 (K1 + K2) (by omega)
  unfold V at hv
  have hd := h1 K2 (by omega)
  have hdm := Nat.div_mul_le_self (m <<< more) n
  rw [Nat.shiftLeft_eq] at hdm ⊢
  by_cases h0 : m = 0
  · subst h0
    simp
  · -- at least one whole
    have hq : 1 ≤ m * 2 ^ more / n := by
      rw [Nat.le_div_iff_mul_le (Nat.pos_of_ne_zero hn), Nat.one_mul]
      have e1 : n < 2 ^ (n.log2 + 1) := Nat.lt_log2_self
      have e2 : 2 ^ m.log2 ≤ m := Nat.log2_self_le h0
      have e3 : 2 ^ (n.log2 + 1) ≤ 2 ^ (m.log2 + more) := Nat.pow_le_pow_right (by decide) (by omega)
      have e4 : 2 ^ m.log2 * 2 ^ more ≤ m * 2 ^ more := Nat.mul_le_mul_right _ e2
      rw [← Nat.pow_add] at e4
      omega
    have hb : (m * 2 ^ more % n != 0).toNat ≤ 1 := by cases (m * 2 ^ more % n != 0) <;> decide
    obtain ⟨q, hqe⟩ : ∃ q, q = m * 2 ^ more / n := ⟨_, rfl⟩
    obtain ⟨r, hre⟩ : ∃ r, r = 2 * q + (m * 2 ^ more % n != 0).toNat := ⟨_, rfl⟩
    rw [← hqe] at hq hdm
    rw [← hqe, ← hre]
    have hr4 : r ≤ 4 * q := by omega
    -- r * n * 2 ^ .. against m
    have key : r * 2 ^ (i - j - more - 1 + (K1 : Int)).toNat * (n * 2 ^ (j + (K2 : Int)).toNat) ≤ 2 ^ (a + 1 + K1) * 2 ^ K2 := by
      have e1 : r * 2 ^ (i - j - more - 1 + (K1 : Int)).toNat * (n * 2 ^ (j + (K2 : Int)).toNat) = (r * n) * 2 ^ (i - more - 1 + (K1 : Int) + (K2 : Int)).toNat := by
        rw [Nat.mul_mul_mul_comm, ← Nat.pow_add]
        congr 2; omega
      rw [e1]
      have e2 : r * n ≤ 4 * (m * 2 ^ more) := by
        refine Nat.le_trans (Nat.mul_le_mul_right n hr4) ?_
        rw [Nat.mul_assoc]
        exact Nat.mul_le_mul_left 4 hdm
      refine Nat.le_trans (Nat.mul_le_mul_right _ e2) ?_
      have e3 : 4 * (m * 2 ^ more) * 2 ^ (i - more - 1 + (K1 : Int) + (K2 : Int)).toNat = 2 * (m * 2 ^ (i + ((K1 + K2 : Nat) : Int)).toNat) := by
        have e4 : 2 ^ more * 2 ^ (i - more - 1 + (K1 : Int) + (K2 : Int)).toNat * 2 = 2 ^ (i + ((K1 + K2 : Nat) : Int)).toNat := by
          rw [← Nat.pow_add, ← Nat.pow_succ]; congr 1; omega
        rw [← e4]
        generalize 2 ^ more = A
        generalize 2 ^ (i - more - 1 + (K1 : Int) + (K2 : Int)).toNat = B
        have x1 : 4 * (m * A) * B = 4 * (m * (A * B)) := by rw [Nat.mul_assoc 4, Nat.mul_assoc m]
        have x2 : m * (A * B * 2) = m * (A * B) * 2 := (Nat.mul_assoc _ _ _).symm
        rw [x1, x2]
        omega
      rw [e3, ← Nat.pow_add]
      have e5 : 2 ^ (a + 1 + K1 + K2) = 2 * 2 ^ (a + (K1 + K2)) := by rw [← Nat.pow_succ']; congr 1; omega
      rw [e5]
      exact Nat.mul_le_mul_left 2 hv
    have : r * 2 ^ (i - j - more - 1 + (K1 : Int)).toNat * 2 ^ K2 ≤ 2 ^ (a + 1 + K1) * 2 ^ K2 := Nat.le_trans (Nat.mul_le_mul_left _ hd) key
    exact Nat.le_of_mul_le_mul_right this (Nat.two_pow_pos K2)
end Go.Ab
end
/- Floats: square roots are not too great. -/
section
namespace Go.Ab
open Ieee
end Go.Ab
end
/- Floats: exact writing; integral values; angles without whole turns. -/
section
namespace Go.Ab
open Ieee
theorem log_two {m j : Nat} (h0 : m ≠ 0) : (m * 2 ^ j).log2 = m.log2 + j := by
  have hp := Nat.two_pow_pos j
  refine (Nat.log2_eq_iff (Nat.mul_ne_zero h0 (by omega))).2 ⟨?_, ?_⟩
  · rw [Nat.pow_add]; exact Nat.mul_le_mul_right _ (Nat.log2_self_le h0)
  · rw [show m.log2 + j + 1 = (m.log2 + 1) + j by omega, Nat.pow_add]
    exact Nat.mul_lt_mul_of_pos_right Nat.lt_log2_self hp
end Go.Ab
end
/- Floats: sines, cosines, angles without whole turns: values and bounds. -/
section
namespace Go.Ab
open Ieee
theorem negF_dec {w m : Nat} {s : Bool} {e : Int} (h : FloatKind.f64.decode w = .number s m e) : FloatKind.f64.decode (Op.negFloat .f64 w) = .number (!s) m e := by
  have hx : Op.negFloat .f64 w = w ^^^ 2 ^ 63 := rfl
  have hs : Format.signWeight FloatKind.f64.format = 2 ^ 63 := rfl
  have hr : (w ^^^ 2 ^ 63) % 2 ^ 63 = w % 2 ^ 63 := by
    rw [Nat.xor_mod_two_pow, Nat.mod_self, Nat.xor_zero]
  have hb : ((w ^^^ 2 ^ 63) / 2 ^ 63 % 2 == 1) = !(w / 2 ^ 63 % 2 == 1) := by
    have t := Nat.testBit_xor w (2 ^ 63) 63
    rw [Nat.testBit_two_pow_self, Nat.testBit_eq_decide_div_mod_eq, Nat.testBit_eq_decide_div_mod_eq, Bool.xor_true] at t
    exact t
  rw [hx]
  have h : Format.read FloatKind.f64.format w = .number s m e := h
  show Format.read FloatKind.f64.format (w ^^^ 2 ^ 63) = _
  unfold Format.read at h ⊢
  simp only [hs] at h ⊢
  rw [hr, hb]
  split at h
  · rename_i h1; rw [if_pos h1]; cases h; rfl
  · rename_i h1
    rw [if_neg h1]
    split at h
    · rename_i h2; rw [if_pos h2]; cases h; rfl
    · split at h <;> cases h
theorem Bnd.neg {x : Option Nat} {b : Nat} (h : Bnd x b) : Bnd (negA .f64 x) b := by
  obtain ⟨w, s, m, e, rfl, h2, h3, h4⟩ := h
  exact ⟨_, !s, m, e, rfl, Nat.xor_lt_two_pow h2 (by decide), negF_dec h3, h4⟩
theorem Bnd.lit {w : Nat} {b : Nat} (h : w < 2 ^ 64) {s : Bool} {m : Nat} {e : Int} (hd : FloatKind.f64.decode w = .number s m e) {K : Nat} (hK : 0 ≤ e + K) (hv : V m e K ≤ 2 ^ (b + K)) : Bnd (some w) b := ⟨w, s, m, e, rfl, h, hd, lep_of hK hv⟩
theorem dec_rng32 {w m : Nat} {s : Bool} {e : Int} (h : FloatKind.f32.decode w = .number s m e) : m < 2 ^ 24 ∧ -149 ≤ e ∧ e ≤ 104 := by
  have hb : Format.binade single = 8388608 := rfl
  have hi : Format.infRung single = 2139095040 := rfl
  have hl : Format.leastPlace single = -149 := rfl
  have h : Format.read single w = .number s m e := h
  unfold Format.read at h
  simp only [hb, hl, hi] at h
  split at h
  · cases h; exact ⟨by omega, by omega, by omega⟩
  · split at h
    · cases h
      have := Nat.mod_lt (w % single.signWeight) (show 0 < 8388608 by decide)
      exact ⟨by omega, by omega, by omega⟩
    · split at h <;> cases h
/-- A number that is no infinity and no NaN. -/
def fin32 (x : Option Nat) : Bool := ford .f32 (fop .sub .f32 x x) (some 0) == some .eq
theorem fin32_num {x : Option Nat} (h0 : fOk .f32 x) (h : fin32 x = true) : ∃ w s m e, x = some w ∧ FloatKind.f32.decode w = .number s m e := by
  cases x with
  | none => cases h
  | some w =>
    obtain ⟨h1, h2⟩ := h0 w rfl
    cases hd : FloatKind.f32.decode w with
    | nan s t => rw [hd] at h2; cases h2
    | number s m e => exact ⟨w, s, m, e, rfl, hd⟩
    | infinity s =>
      exfalso
      have e : fop .sub .f32 (some w) (some w) = none := by
        show ((Format.read _ w).sum (Format.read _ w).opposite).map _ = _
        rw [show Format.read FloatKind.f32.format w = .infinity s from hd]
        cases s <;> rfl
      unfold fin32 at h
      rw [e] at h
      cases h
end Go.Ab
end
/- Floats: absolute values, limits, quotients that are numbers, integers out of floats. -/
section
namespace Go.Ab
open Ieee
theorem signed_f (m k : Nat) : signed false m k = ((m <<< k : Nat) : Int) := rfl
theorem signed_t (m k : Nat) : signed true m k = -((m <<< k : Nat) : Int) := rfl
theorem cmp_lt {a b : Int} : (some (compare a b) == some Ordering.lt) = decide (a < b) := by
  show (some (compareOfLessAndEq a b) == some Ordering.lt) = _
  unfold compareOfLessAndEq
  by_cases h : a < b
  · rw [if_pos h, decide_eq_true h]; rfl
  · rw [if_neg h, decide_eq_false h]; split <;> rfl
end Go.Ab
end
/- Floats: nought and a number; products in either order. -/
section
namespace Go.Ab
open Ieee
theorem enc32 {b n : Nat} {j : Int} {t : Bool} (hb : b < 2 ^ 32) (h : FloatKind.f32.decode b = .number t n j) (h0 : n ≠ 0) : FloatKind.f32.encode (.number t (n * 2 ^ (j + 149).toNat) (-149)) = b := by
  have hs : Format.signWeight single = 2147483648 := rfl
  have hi : Format.infRung single = 2139095040 := rfl
  have hbin : Format.binade single = 8388608 := rfl
  have hl : Format.leastPlace single = -149 := rfl
  have hf : single.fractionBits = 23 := rfl
  have hb : b < 4294967296 := hb
  have hsign : ∀ r t, r = b % 2147483648 → t = (b / 2147483648 % 2 == 1) → single.word t r = b := by
    intro r t hr ht
    unfold Format.word
    rw [hs]
    cases t with
    | true =>
      have : b / 2147483648 % 2 = 1 := by simpa using ht.symm
      rw [if_pos rfl]; omega
    | false =>
      have : ¬ b / 2147483648 % 2 = 1 := by simpa using ht.symm
      rw [if_neg (by decide)]; omega
  have h : Format.read single b = .number t n j := h
  show Format.nearest single t (n * 2 ^ (j + 149).toNat) (-149) = b
  unfold Format.read at h
  simp only [hs, hi, hbin, hl] at h
  split at h
  · rename_i h1
    cases h
    rw [show ((-149 : Int) + 149).toNat = 0 from rfl, Nat.pow_zero, Nat.mul_one]
    have hlog : (b % 2147483648).log2 ≤ 22 := by
      have := (Nat.log2_lt (n := b % 2147483648) (k := 23) h0).2 h1
      omega
    unfold Format.nearest
    rw [if_neg h0]
    simp only [hf, hl, hbin, hi]
    rw [show max ((-149 : Int) + ((b % 2147483648).log2 : Int) - ((23 : Nat) : Int)) (-149) = -149 by omega]
    rw [show ((-149 : Int) - -149).toNat = 0 from rfl, Nat.shiftLeft_zero, cut_exact .even _ (Nat.zero_le _) (Nat.mod_one _), Nat.pow_zero, Nat.div_one, Nat.zero_mul, Nat.zero_add, Nat.min_eq_left (by omega)]
    exact hsign _ _ rfl rfl
  · split at h
    · rename_i h1 h2
      cases h
      obtain ⟨r, hr⟩ : ∃ r, r = b % 2147483648 := ⟨_, rfl⟩
      obtain ⟨s, hsx⟩ : ∃ s, s = (b / 2147483648 % 2 == 1) := ⟨_, rfl⟩
      rw [← hr] at h0 h1 h2 ⊢
      rw [← hsx]
      obtain ⟨k, hk⟩ : ∃ k, r / 8388608 = k + 1 := ⟨r / 8388608 - 1, by omega⟩
      have hn : 8388608 + r % 8388608 < 16777216 := by omega
      obtain ⟨n, hnn⟩ : ∃ n, n = 8388608 + r % 8388608 := ⟨_, rfl⟩
      rw [← hnn] at h0 hn ⊢
      rw [show ((-149 : Int) + ((r / 8388608 - 1 : Nat) : Int) + 149).toNat = k by omega]
      have hlog : n.log2 = 23 := by
        have a1 := (Nat.log2_lt (n := n) (k := 24) h0).2 (by omega)
        have a2 := (Nat.le_log2 (n := n) (k := 23) h0).2 (by omega)
        omega
      have hl2 : (n * 2 ^ k).log2 = 23 + k := by rw [log_two h0, hlog]
      have hne : n * 2 ^ k ≠ 0 := Nat.mul_ne_zero h0 (by have := Nat.two_pow_pos k; omega)
      unfold Format.nearest
      rw [if_neg hne]
      simp only [hf, hl, hbin, hi, hl2]
      rw [show max ((-149 : Int) + ((23 + k : Nat) : Int) - ((23 : Nat) : Int)) (-149) = -149 + k by omega]
      rw [show ((-149 : Int) - (-149 + (k : Int))).toNat = 0 by omega, Nat.shiftLeft_zero, show (-149 + (k : Int) - -149).toNat = k by omega]
      rw [cut_exact .even _ (by rw [hl2]; omega) (Nat.mul_mod_left _ _), Nat.mul_div_cancel _ (Nat.two_pow_pos k)]
      have he : k * 8388608 + n = r := by omega
      rw [he, Nat.min_eq_left (by omega)]
      exact hsign _ _ hr hsx
    · split at h <;> cases h
/-- Nought and a number that is not nought. -/
theorem zero_add32 {x : Option Nat} (hx : fOk .f32 x) (fx : fin32 x = true) (h0 : (ford .f32 (some 0) x == some .lt) = true) : fop .add .f32 (some 0) x = x := by
  obtain ⟨w, s, m, e, rfl, hd⟩ := fin32_num hx fx
  have e0 : FloatKind.f32.decode 0 = .number false 0 (-149) := by decide +kernel
  have hm : m ≠ 0 := by
    rintro rfl
    have e1 : ford .f32 (some 0) (some w) = (FloatKind.f32.decode 0).order (FloatKind.f32.decode w) := rfl
    rw [e1, hd, e0] at h0
    have h0 : (some (compare (signed false 0 (-149 - min (-149) e).toNat) (signed s 0 (e - min (-149) e).toNat)) == some Ordering.lt) = true := h0
    rw [cmp_lt, signed_f, Nat.zero_shiftLeft] at h0
    cases s
    · rw [signed_f, Nat.zero_shiftLeft] at h0; simp at h0
    · rw [signed_t, Nat.zero_shiftLeft] at h0; simp at h0
  obtain ⟨hr1, hr2, hr3⟩ := dec_rng32 hd
  have e1 : fop .add .f32 (some 0) (some w) = ((FloatKind.f32.decode 0).sum (FloatKind.f32.decode w)).map FloatKind.f32.encode := rfl
  rw [e1, e0, hd]
  show some (FloatKind.f32.encode (.number _ _ (min (-149) e))) = _
  have hmin : min (-149 : Int) e = -149 := by omega
  simp only [hmin]
  have ht : signed false 0 ((-149 : Int) - -149).toNat + signed s m (e - -149).toNat = signed s m (e + 149).toNat := by
    rw [signed_f, Nat.zero_shiftLeft, show e - -149 = e + 149 by omega]; simp
  rw [ht]
  have hne : m * 2 ^ (e + 149).toNat ≠ 0 := Nat.mul_ne_zero hm (by have := Nat.two_pow_pos (e + 149).toNat; omega)
  have hab : (signed s m (e + 149).toNat).natAbs = m * 2 ^ (e + 149).toNat := signed_abs _ _ _
  rw [hab]
  have hsg : (if signed s m (e + 149).toNat = 0 then (false && s) else decide (signed s m (e + 149).toNat < 0)) = s := by
    cases s
    · rw [signed_f, Nat.shiftLeft_eq]
      rw [if_neg (by omega)]; exact decide_eq_false (by omega)
    · rw [signed_t, Nat.shiftLeft_eq]
      rw [if_neg (by omega)]; exact decide_eq_true (by omega)
  rw [hsg, enc32 (hx w rfl).1 hd hm]
theorem prod_comm (a b : Datum) : a.product b = b.product a := by
  cases a <;> cases b <;> simp [Datum.product, Bool.xor_comm, Nat.mul_comm, Int.add_comm]
theorem mul_comm32 (x y : Option Nat) : fop .mul .f32 x y = fop .mul .f32 y x := by
  cases x <;> cases y <;> try rfl
  rename_i a b
  show ((Format.read _ a).product (Format.read _ b)).map _ = ((Format.read _ b).product (Format.read _ a)).map _
  rw [prod_comm]
end Go.Ab
end
/- Floats: signs; numbers that are equal. -/
section
namespace Go.Ab
open Ieee
end Go.Ab
end
/- Remainders by words that are not literals. -/
section
namespace Go.Ab
end Go.Ab
end
/- Slices without their first element; outcomes that are alike. -/
section
namespace Go.Ab
theorem SlL.isSlC {H : AHeap} {sz : Nat} {ms : List (List AV)} {S : AV} (h : SlL H sz ms S) {i : Nat} (hi : i < ms.length) : ∃ l cap rest wr, S = .slice l 0 ms.length cap sz ∧ H.get l = some (.row (ms.flatten ++ rest) wr) ∧ ms.length ≤ cap := by
  cases h with
  | nil h => rw [h] at hi; simp at hi
  | @sl l n cap rest wr hg hn hc => subst hn; exact ⟨l, cap, rest, wr, rfl, hg, hc⟩
theorem rule_fromS {c : Cx} {x i v : SV} {S : AV} {l n cap sz : Nat} (hx : D c.vs c.ls x S) (eS : S = .slice l 0 n cap sz) (hi : D c.vs c.ls i (.int .i64 1)) (hv : D c.vs c.ls v (.slice l (1 * sz) (n - 1) (cap - 1) sz)) (hk : 1 ≤ n) (hc : n ≤ cap) : RuleOk c (.slSl sz x (some i) none) v := by
  subst eS
  exact rule_from (k := 1) hx hi hv hk hc
theorem rule_iaV {c : Cx} {x i : SV} {S : AV} {j l0 l n cap0 cap sz k : Nat} (hx : D c.vs c.ls x (.slice l0 (1 * sz) (n - 1) (cap0 - 1) sz)) (h0 : S = .slice l0 0 n cap0 sz) (hS : S = .slice l 0 n cap sz) (hi : D c.vs c.ls i (.int .i64 (k : Int))) (hk : k + 1 < n) (hj : c.ls[j]? = some (l, (k + 1) * sz)) : RuleOk c (.ia sz x i) (.ptr j 0) := by
  have e := h0.symm.trans hS
  obtain rfl : l0 = l := by injection e
  refine ⟨_, _, .ptr l0 ((k + 1) * sz), hx, hi, by simp only [D]; exact ⟨l0, (k + 1) * sz, hj, by simp⟩, fun E get => ?_⟩
  simp only [aval, Opd.ev]
  rw [if_pos ⟨trivial, by omega, by omega⟩, Int.toNat_natCast, show 1 * sz + k * sz = (k + 1) * sz by rw [Nat.add_mul]; omega]
end Go.Ab
end
