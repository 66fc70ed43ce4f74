/- Floats: bounds of results; narrowing. -/
import Derived.Test.YtcmoeocemmeofaaSxA
import Derived.Test.YtcmoeocemmeofaaAbD
import Derived.Test.YtcmoeocemmeofaaSxD
import Derived.Test.YtcmoeocemmeofaaSxC
set_option linter.unusedVariables false
set_option linter.unusedSimpArgs false
section
namespace Go.Ab
open Ieee
/-- What is not too great is written in single precision as a number. -/
theorem f32_fin {s : Bool} {m : Nat} {e : Int} (h : LeP m e 126) : (FloatKind.f32.decode (FloatKind.f32.encode (.number s m e))).isInfinity = false := by
  have hb : Format.binade single = 8388608 := rfl
  have hi : Format.infRung single = 2139095040 := rfl
  have hl : Format.leastPlace single = -149 := rfl
  have hf : single.fractionBits = 23 := rfl
  show (Format.read single (Format.nearest single s m e)).isInfinity = false
  by_cases h0 : m = 0
  · subst h0
    show (Format.read single (single.word s 0)).isInfinity = false
    cases s <;> decide +kernel
  · have hlog := h.log h0
    have hhi : m < 2 ^ (m.log2 + 1) := Nat.lt_log2_self
    obtain ⟨L, hL⟩ : ∃ L : Int, L = max (e + m.log2 - 23) (-149) := ⟨_, rfl⟩
    obtain ⟨kept, hk⟩ : ∃ kept, kept = Toward.even.cut s (m <<< (e - L).toNat) (L - e).toNat := ⟨_, rfl⟩
    have hkle : kept ≤ 2 ^ 24 := by
      rw [hk]
      refine cut_le ?_
      rw [Nat.shiftLeft_eq]
      have h1 : m * 2 ^ (e - L).toNat ≤ 2 ^ (m.log2 + 1 + (e - L).toNat) := by
        rw [Nat.pow_add]; exact Nat.mul_le_mul_right _ (Nat.le_of_lt hhi)
      refine Nat.le_trans h1 ?_
      rw [← Nat.pow_add]
      refine Nat.pow_le_pow_right (by decide) ?_
      omega
    simp only [Nat.reducePow] at hkle
    have hr : (L + 149).toNat * 8388608 + kept < 2139095040 := by omega
    have hw : Format.nearest single s m e = single.word s ((L + 149).toNat * 8388608 + kept) := by
      unfold Format.nearest
      rw [if_neg h0]
      simp only [hf, hl, hb, hi]
      rw [show max (e + (m.log2 : Int) - ((23 : Nat) : Int)) (-149) = L from hL.symm, ← hk, show L - -149 = L + 149 by omega]
      rw [Nat.min_eq_left (Nat.le_of_lt hr)]
    rw [hw, read_num single s (by rw [hi]; exact hr)]
    split <;> rfl
/-- A double that is a number of at most 2 ^ b. -/
def Bnd (x : Option Nat) (b : Nat) : Prop := ∃ w s m e, x = some w ∧ w < 2 ^ 64 ∧ FloatKind.f64.decode w = .number s m e ∧ LeP m e b
theorem Bnd.mono {x : Option Nat} {b c : Nat} (h : Bnd x b) (hc : b ≤ c) : Bnd x c := by
  obtain ⟨w, s, m, e, h1, h2, h3, h4⟩ := h
  exact ⟨w, s, m, e, h1, h2, h3, h4.mono hc⟩
theorem Bnd.ok {x : Option Nat} {b : Nat} (h : Bnd x b) : fOk .f64 x := by
  obtain ⟨w, s, m, e, rfl, h2, h3, h4⟩ := h
  intro c hc
  cases hc
  exact ⟨h2, by rw [h3]; rfl⟩
/-- A number that is not too great, written. -/
theorem Bnd.of {s : Bool} {m : Nat} {e : Int} {b : Nat} (h : LeP m e b) (hb : b ≤ 1022) : Bnd (some (FloatKind.f64.encode (.number s m e))) b := by
  obtain ⟨m', e', h1, h2, _⟩ := write_le (s := s) h hb
  exact ⟨_, s, m', e', rfl, FloatKind.f64.format.write_lt _, h1, h2⟩
/-- Narrowing gives a number. -/
theorem Bnd.narrow {x : Option Nat} {b : Nat} (h : Bnd x b) (hb : b ≤ 126) : ∃ y, f2f .f64 x .f32 = some y ∧ fOk .f32 y := by
  obtain ⟨w, s, m, e, rfl, h2, h3, h4⟩ := h
  have hf := f32_fin (s := s) (h4.mono hb)
  refine ⟨some (FloatKind.f32.encode (.number s m e)), ?_, ?_⟩
  · show (floatToFloatBits .f64 w .f32).map some = _
    unfold floatToFloatBits
    rw [if_neg (by decide), h3]
    simp only []
    rw [hf]; rfl
  · intro c hc
    cases hc
    exact ⟨FloatKind.f32.format.write_lt _, (nrm_some (nrm_write .f32 (d := .number _ _ _) rfl)).2⟩
theorem LeP.prod {m n : Nat} {i j : Int} {a b : Nat} (h : LeP m i a) (k : LeP n j b) : LeP (m * n) (i + j) (a + b) := by
  have h1 := h (-i).toNat (by omega)
  have k1 := k (-j).toNat (by omega)
  refine lep_of (K := (-i).toNat + (-j).toNat) (by omega) ?_
  unfold V at *
  have e1 : (i + j + (((-i).toNat + (-j).toNat : Nat) : Int)).toNat = (i + ((-i).toNat : Int)).toNat + (j + ((-j).toNat : Int)).toNat := by omega
  rw [e1, Nat.pow_add, show m * n * (2 ^ (i + ((-i).toNat : Int)).toNat * 2 ^ (j + ((-j).toNat : Int)).toNat) = (m * 2 ^ (i + ((-i).toNat : Int)).toNat) * (n * 2 ^ (j + ((-j).toNat : Int)).toNat) by
    rw [Nat.mul_mul_mul_comm]]
  refine Nat.le_trans (Nat.mul_le_mul h1 k1) ?_
  rw [← Nat.pow_add]
  exact Nat.pow_le_pow_right (by decide) (by omega)
theorem Bnd.mul {x y : Option Nat} {a b : Nat} (h : Bnd x a) (k : Bnd y b) (hab : a + b ≤ 1022) : Bnd (fop .mul .f64 x y) (a + b) := by
  obtain ⟨w, s, m, i, rfl, h2, h3, h4⟩ := h
  obtain ⟨v, t, n, j, rfl, k2, k3, k4⟩ := k
  have : fop .mul .f64 (some w) (some v) = some (FloatKind.f64.encode (.number (s ^^ t) (m * n) (i + j))) := by
    show ((Format.read _ w).product (Format.read _ v)).map _ = _
    rw [show Format.read FloatKind.f64.format w = .number s m i from h3, show Format.read FloatKind.f64.format v = .number t n j from k3]
    rfl
  rw [this]
  exact Bnd.of (h4.prod k4) hab
theorem signed_abs (s : Bool) (m k : Nat) : (signed s m k).natAbs = m * 2 ^ k := by
  unfold signed
  cases s
  · exact (Int.natAbs_natCast _).trans (Nat.shiftLeft_eq _ _)
  · exact (Int.natAbs_neg _).trans ((Int.natAbs_natCast _).trans (Nat.shiftLeft_eq _ _))
theorem LeP.summ {s t : Bool} {m n : Nat} {i j : Int} {a b c : Nat} (h : LeP m i a) (k : LeP n j b) (ha : a < c) (hb : b < c) : LeP (signed s m (i - min i j).toNat + signed t n (j - min i j).toNat).natAbs (min i j) c := by
  obtain ⟨K, hK⟩ : ∃ K : Nat, K = (-i).toNat + (-j).toNat := ⟨_, rfl⟩
  have h1 := h K (by omega)
  have k1 := k K (by omega)
  refine lep_of (K := K) (by omega) ?_
  unfold V at *
  have e := Int.natAbs_add_le (signed s m (i - min i j).toNat) (signed t n (j - min i j).toNat)
  rw [signed_abs, signed_abs] at e
  refine Nat.le_trans (Nat.mul_le_mul_right _ e) ?_
  rw [Nat.add_mul, Nat.mul_assoc, Nat.mul_assoc, ← Nat.pow_add, ← Nat.pow_add, show (i - min i j).toNat + (min i j + (K : Int)).toNat = (i + K).toNat by omega, show (j - min i j).toNat + (min i j + (K : Int)).toNat = (j + K).toNat by omega]
  have p1 : 2 ^ (a + K) ≤ 2 ^ (c - 1 + K) := Nat.pow_le_pow_right (by decide) (by omega)
  have p2 : 2 ^ (b + K) ≤ 2 ^ (c - 1 + K) := Nat.pow_le_pow_right (by decide) (by omega)
  have p3 : 2 ^ (c + K) = 2 ^ (c - 1 + K) * 2 := by rw [← Nat.pow_succ]; congr 1; omega
  omega
theorem Bnd.sub {x y : Option Nat} {a b c : Nat} (h : Bnd x a) (k : Bnd y b) (ha : a < c) (hb : b < c) (hc : c ≤ 1022) : Bnd (fop .sub .f64 x y) c := by
  obtain ⟨w, s, m, i, rfl, h2, h3, h4⟩ := h
  obtain ⟨v, t, n, j, rfl, k2, k3, k4⟩ := k
  have : fop .sub .f64 (some w) (some v) = some (FloatKind.f64.encode (.number (if signed s m (i - min i j).toNat + signed (!t) n (j - min i j).toNat = 0 then s && !t else signed s m (i - min i j).toNat + signed (!t) n (j - min i j).toNat < 0) (signed s m (i - min i j).toNat + signed (!t) n (j - min i j).toNat).natAbs (min i j))) := by
    show ((Format.read _ w).sum (Format.read _ v).opposite).map _ = _
    rw [show Format.read FloatKind.f64.format w = .number s m i from h3, show Format.read FloatKind.f64.format v = .number t n j from k3]
    rfl
  rw [this]
  exact Bnd.of (h4.summ k4 ha hb) hc
theorem Bnd.add {x y : Option Nat} {a b c : Nat} (h : Bnd x a) (k : Bnd y b) (ha : a < c) (hb : b < c) (hc : c ≤ 1022) : Bnd (fop .add .f64 x y) c := by
  obtain ⟨w, s, m, i, rfl, h2, h3, h4⟩ := h
  obtain ⟨v, t, n, j, rfl, k2, k3, k4⟩ := k
  have : fop .add .f64 (some w) (some v) = some (FloatKind.f64.encode (.number (if signed s m (i - min i j).toNat + signed t n (j - min i j).toNat = 0 then s && t else signed s m (i - min i j).toNat + signed t n (j - min i j).toNat < 0) (signed s m (i - min i j).toNat + signed t n (j - min i j).toNat).natAbs (min i j))) := by
    show ((Format.read _ w).sum (Format.read _ v)).map _ = _
    rw [show Format.read FloatKind.f64.format w = .number s m i from h3, show Format.read FloatKind.f64.format v = .number t n j from k3]
    rfl
  rw [this]
  exact Bnd.of (h4.summ k4 ha hb) hc
/-- Dividing by a number that is at least 1. -/
theorem Bnd.quo {x : Option Nat} {a v n : Nat} {t : Bool} {j : Int} (h : Bnd x a) (k3 : FloatKind.f64.decode v = .number t n j) (hn : n ≠ 0) (h1 : ∀ K : Nat, 0 ≤ j + K → 2 ^ K ≤ n * 2 ^ (j + K).toNat) (ha : a + 1 ≤ 1022) : Bnd (fop .quo .f64 x (some v)) (a + 1) := by
  obtain ⟨w, s, m, i, rfl, h2, h3, h4⟩ := h
  obtain ⟨more, hmore⟩ : ∃ more, more = 54 + n.log2 - m.log2 := ⟨_, rfl⟩
  have : fop .quo .f64 (some w) (some v) = some (FloatKind.f64.encode (.number (s ^^ t) (2 * (m <<< more / n) + (m <<< more % n != 0).toNat) (i - j - more - 1))) := by
    show ((Format.read _ w).quotient _ (Format.read _ v)).map _ = _
    rw [show Format.read FloatKind.f64.format w = .number s m i from h3, show Format.read FloatKind.f64.format v = .number t n j from k3]
    show (if n = 0 then _ else _ : Option Datum).map _ = _
    rw [if_neg hn, hmore]
    rfl
  rw [this]
  refine Bnd.of ?_ ha
  obtain ⟨K1, hK1⟩ : ∃ K1 : Nat, K1 = (-(i - j - more - 1)).toNat := ⟨_, rfl⟩
  obtain ⟨K2, hK2⟩ : ∃ K2 : Nat, K2 = (-j).toNat + (-(i - more - 1)).toNat + (-i).toNat := ⟨_, rfl⟩
  refine lep_of (K := K1) (by omega) ?_
  unfold V
  have hv := h4 (K1 + K2) (by omega)
  unfold V at hv
  have hd := h1 K2 (by omega)
  have hdm := Nat.div_mul_le_self (m <<< more) n
  rw [Nat.shiftLeft_eq] at hdm ⊢
  by_cases h0 : m = 0
  · subst h0
    simp
  · -- at least one whole
    have hq : 1 ≤ m * 2 ^ more / n := by
      rw [Nat.le_div_iff_mul_le (Nat.pos_of_ne_zero hn), Nat.one_mul]
      have e1 : n < 2 ^ (n.log2 + 1) := Nat.lt_log2_self
      have e2 : 2 ^ m.log2 ≤ m := Nat.log2_self_le h0
      have e3 : 2 ^ (n.log2 + 1) ≤ 2 ^ (m.log2 + more) := Nat.pow_le_pow_right (by decide) (by omega)
      have e4 : 2 ^ m.log2 * 2 ^ more ≤ m * 2 ^ more := Nat.mul_le_mul_right _ e2
      rw [← Nat.pow_add] at e4
      omega
    have hb : (m * 2 ^ more % n != 0).toNat ≤ 1 := by cases (m * 2 ^ more % n != 0) <;> decide
    obtain ⟨q, hqe⟩ : ∃ q, q = m * 2 ^ more / n := ⟨_, rfl⟩
    obtain ⟨r, hre⟩ : ∃ r, r = 2 * q + (m * 2 ^ more % n != 0).toNat := ⟨_, rfl⟩
    rw [← hqe] at hq hdm
    rw [← hqe, ← hre]
    have hr4 : r ≤ 4 * q := by omega
    -- r * n * 2 ^ .. against m
    have key : r * 2 ^ (i - j - more - 1 + (K1 : Int)).toNat * (n * 2 ^ (j + (K2 : Int)).toNat) ≤ 2 ^ (a + 1 + K1) * 2 ^ K2 := by
      have e1 : r * 2 ^ (i - j - more - 1 + (K1 : Int)).toNat * (n * 2 ^ (j + (K2 : Int)).toNat) = (r * n) * 2 ^ (i - more - 1 + (K1 : Int) + (K2 : Int)).toNat := by
        rw [Nat.mul_mul_mul_comm, ← Nat.pow_add]
        congr 2; omega
      rw [e1]
      have e2 : r * n ≤ 4 * (m * 2 ^ more) := by
        refine Nat.le_trans (Nat.mul_le_mul_right n hr4) ?_
        rw [Nat.mul_assoc]
        exact Nat.mul_le_mul_left 4 hdm
      refine Nat.le_trans (Nat.mul_le_mul_right _ e2) ?_
      have e3 : 4 * (m * 2 ^ more) * 2 ^ (i - more - 1 + (K1 : Int) + (K2 : Int)).toNat = 2 * (m * 2 ^ (i + ((K1 + K2 : Nat) : Int)).toNat) := by
        have e4 : 2 ^ more * 2 ^ (i - more - 1 + (K1 : Int) + (K2 : Int)).toNat * 2 = 2 ^ (i + ((K1 + K2 : Nat) : Int)).toNat := by
          rw [← Nat.pow_add, ← Nat.pow_succ]; congr 1; omega
        rw [← e4]
        generalize 2 ^ more = A
        generalize 2 ^ (i - more - 1 + (K1 : Int) + (K2 : Int)).toNat = B
        have x1 : 4 * (m * A) * B = 4 * (m * (A * B)) := by rw [Nat.mul_assoc 4, Nat.mul_assoc m]
        have x2 : m * (A * B * 2) = m * (A * B) * 2 := (Nat.mul_assoc _ _ _).symm
        rw [x1, x2]
        omega
      rw [e3, ← Nat.pow_add]
      have e5 : 2 ^ (a + 1 + K1 + K2) = 2 * 2 ^ (a + (K1 + K2)) := by rw [← Nat.pow_succ']; congr 1; omega
      rw [e5]
      exact Nat.mul_le_mul_left 2 hv
    have : r * 2 ^ (i - j - more - 1 + (K1 : Int)).toNat * 2 ^ K2 ≤ 2 ^ (a + 1 + K1) * 2 ^ K2 := Nat.le_trans (Nat.mul_le_mul_left _ hd) key
    exact Nat.le_of_mul_le_mul_right this (Nat.two_pow_pos K2)
end Go.Ab
end
/- Floats: square roots are not too great. -/
section
namespace Go.Ab
open Ieee
end Go.Ab
end
/- Floats: exact writing; integral values; angles without whole turns. -/
section
namespace Go.Ab
open Ieee
theorem log_two {m j : Nat} (h0 : m ≠ 0) : (m * 2 ^ j).log2 = m.log2 + j := by
  have hp := Nat.two_pow_pos j
  refine (Nat.log2_eq_iff (Nat.mul_ne_zero h0 (by omega))).2 ⟨?_, ?_⟩
  · rw [Nat.pow_add]; exact Nat.mul_le_mul_right _ (Nat.log2_self_le h0)
  · rw [show m.log2 + j + 1 = (m.log2 + 1) + j by omega, Nat.pow_add]
    exact Nat.mul_lt_mul_of_pos_right Nat.lt_log2_self hp
theorem cut_ex {s : Bool} {N d : Nat} (h : N ≠ 0) : Toward.even.cut s (N * 2 ^ d) d = N := by
  have hl : d ≤ (N * 2 ^ d).log2 := by rw [log_two h]; omega
  exact Nat.le_antisymm (cut_le (Nat.le_refl _)) (cut_ge hl (Nat.le_refl _))
/-- A number of few digits is written as it is. -/
theorem write_exact {s : Bool} {m j : Nat} {e : Int} (h0 : m ≠ 0) (hm : m < 2 ^ 53) (he : -1074 ≤ e) (hlog : (m.log2 : Int) + j + e ≤ 1022) : ∃ (m' : Nat) (e' : Int), FloatKind.f64.decode (FloatKind.f64.encode (.number s (m * 2 ^ j) e)) = .number s m' e' ∧ -1074 ≤ e' ∧ ∀ K : Nat, 1074 ≤ K → V m' e' K = V (m * 2 ^ j) e K := by
  have hn0 : m * 2 ^ j ≠ 0 := Nat.mul_ne_zero h0 (Nat.pos_iff_ne_zero.1 (Nat.two_pow_pos j))
  have hlm : m.log2 < 53 := (Nat.log2_lt h0).2 hm
  obtain ⟨L, kept, hL, hk, m', e', h1, h2, h3⟩ := write_num (s := s) (e := e) hn0 (by rw [log_two h0]; omega)
  refine ⟨m', e', h1, h2, fun K hK => ?_⟩
  rw [h3 K hK]
  rw [log_two h0] at hL
  by_cases hc : L ≤ e
  · rw [show (L - e).toNat = 0 by omega] at hk
    have := cut_ex (s := s) (N := (m * 2 ^ j) <<< (e - L).toNat) (d := 0) (by rw [Nat.shiftLeft_eq]; exact Nat.mul_ne_zero hn0 (Nat.pos_iff_ne_zero.1 (Nat.two_pow_pos _)))
    rw [Nat.pow_zero, Nat.mul_one] at this
    rw [hk, this]
    unfold V
    rw [Nat.shiftLeft_eq, Nat.mul_assoc, ← Nat.pow_add]
    congr 2; omega
  · rw [show (e - L).toNat = 0 by omega, Nat.shiftLeft_eq, Nat.pow_zero, Nat.mul_one] at hk
    obtain ⟨d, hd⟩ : ∃ d, d = (L - e).toNat := ⟨_, rfl⟩
    rw [← hd] at hk
    have hdj : d ≤ j := by omega
    have e1 : m * 2 ^ j = m * 2 ^ (j - d) * 2 ^ d := by rw [Nat.mul_assoc, ← Nat.pow_add]; congr 2; omega
    rw [e1, cut_ex (Nat.mul_ne_zero h0 (Nat.pos_iff_ne_zero.1 (Nat.two_pow_pos _)))] at hk
    rw [e1, hk]
    unfold V
    rw [Nat.mul_assoc (m * _), ← Nat.pow_add]
    congr 2; omega
/-- What a word reads as is small. -/
theorem dec_rng {w m : Nat} {s : Bool} {e : Int} (h : FloatKind.f64.decode w = .number s m e) : m < 2 ^ 53 ∧ -1074 ≤ e := by
  have hb : Format.binade double = 4503599627370496 := rfl
  have hl : Format.leastPlace double = -1074 := rfl
  have h : Format.read double w = .number s m e := h
  unfold Format.read at h
  simp only [hb, hl] at h
  split at h
  · cases h; exact ⟨by omega, by omega⟩
  · split at h
    · cases h
      have := Nat.mod_lt (w % double.signWeight) (show 0 < 4503599627370496 by decide)
      exact ⟨by omega, by omega⟩
    · split at h <;> cases h
/-- Rounding to an integral number moves it by at most one. -/
theorem cut_near {way : Toward} {s : Bool} {m d : Nat} : way.cut s m d * 2 ^ d ≤ m + 2 ^ d ∧ m ≤ way.cut s m d * 2 ^ d + 2 ^ d := by
  obtain ⟨b, hb, hx⟩ : ∃ b : Nat, b ≤ 1 ∧ way.cut s m d = m / 2 ^ min d (m.log2 + 2) + b := ⟨_, Bool.toNat_le _, by unfold Toward.cut; simp only [Nat.one_shiftLeft]; rfl⟩
  rw [hx]
  by_cases hd : d ≤ m.log2 + 2
  · rw [Nat.min_eq_left hd]
    have h1 := Nat.div_add_mod m (2 ^ d)
    have h2 := Nat.mod_lt m (Nat.two_pow_pos d)
    rw [Nat.add_mul]
    have h3 : b * 2 ^ d ≤ 1 * 2 ^ d := Nat.mul_le_mul_right _ hb
    rw [Nat.mul_comm] at h1
    generalize m / 2 ^ d * 2 ^ d = q at *
    generalize b * 2 ^ d = c at *
    generalize m % 2 ^ d = r at *
    generalize 2 ^ d = g at *
    omega
  · rw [Nat.min_eq_right (by omega)]
    have hlt : m < 2 ^ (m.log2 + 1) := Nat.lt_log2_self
    have e1 : 2 ^ (m.log2 + 1) ≤ 2 ^ (m.log2 + 2) := Nat.pow_le_pow_right (by decide) (by omega)
    have e2 : 2 ^ (m.log2 + 2) ≤ 2 ^ d := Nat.pow_le_pow_right (by decide) (by omega)
    rw [Nat.div_eq_of_lt (by omega), Nat.zero_add]
    have h3 : b * 2 ^ d ≤ 1 * 2 ^ d := Nat.mul_le_mul_right _ hb
    omega
theorem cut_low {way : Toward} {s : Bool} {m d : Nat} (h : m < 2 ^ 53) (hd : 1 ≤ d) : way.cut s m d < 2 ^ 53 := by
  have h1 := (cut_near (way := way) (s := s) (m := m) (d := d)).1
  obtain ⟨k, hk⟩ : ∃ k, k = way.cut s m d := ⟨_, rfl⟩
  rw [← hk] at h1 ⊢
  rcases Nat.lt_or_ge k (2 ^ 53) with h2 | h2
  · exact h2
  · exfalso
    have h3 : 2 ^ 53 * 2 ^ d ≤ k * 2 ^ d := Nat.mul_le_mul_right _ h2
    have h4 : 2 ^ 1 ≤ 2 ^ d := Nat.pow_le_pow_right (by decide) hd
    generalize 2 ^ d = g at *
    simp only [Nat.reducePow] at *
    omega
theorem cut_zero {way : Toward} {s : Bool} {m : Nat} : way.cut s m 0 = m := by
  unfold Toward.cut
  simp only [Nat.zero_min, Nat.one_shiftLeft, Nat.pow_zero, Nat.div_one, Nat.mod_one]
  cases way <;> simp
theorem int_num {way : Toward} {w m : Nat} {s : Bool} {e : Int} (h : FloatKind.f64.decode w = .number s m e) (hl : m ≠ 0 → (m.log2 : Int) + e ≤ 1022) : ∃ m' e', FloatKind.f64.decode (FloatKind.f64.encode ((FloatKind.f64.decode w).integral way)) = .number s m' e' ∧ -1074 ≤ e' ∧ ∀ K : Nat, 1074 ≤ K → V m' e' K ≤ V m e K + 2 ^ K ∧ V m e K ≤ V m' e' K + 2 ^ K := by
  obtain ⟨hm, he⟩ := dec_rng h
  rw [h]
  unfold Datum.integral
  simp only []
  have hz : ∀ s, FloatKind.f64.decode (FloatKind.f64.encode (.number s 0 0)) = .number s 0 (-1074) := by
    intro s
    rw [show FloatKind.f64.encode (.number s 0 0) = double.word s 0 from rfl]
    cases s <;> decide +kernel
  by_cases hc : 0 ≤ e
  · rw [show (-e).toNat = 0 by omega, cut_zero, Nat.shiftLeft_eq]
    by_cases h0 : m = 0
    · subst h0
      rw [Nat.zero_mul, hz]
      exact ⟨0, -1074, rfl, Int.le_refl _, fun K _ => by unfold V; simp⟩
    · obtain ⟨m', e', h1, h2, h3⟩ := write_exact (s := s) (j := e.toNat) (e := 0) h0 hm (by omega) (by have := hl h0; omega)
      refine ⟨m', e', h1, h2, fun K hK => ?_⟩
      rw [h3 K hK]
      have : V (m * 2 ^ e.toNat) 0 K = V m e K := by
        unfold V
        rw [Nat.mul_assoc, ← Nat.pow_add]; congr 2; omega
      rw [this]
      exact ⟨Nat.le_add_right _ _, Nat.le_add_right _ _⟩
  · obtain ⟨d, hd⟩ : ∃ d, d = (-e).toNat := ⟨_, rfl⟩
    rw [show e.toNat = 0 by omega, Nat.shiftLeft_eq, Nat.pow_zero, Nat.mul_one, ← hd]
    have hlow := cut_low (way := way) (s := s) (d := d) hm (by omega)
    have hn := cut_near (way := way) (s := s) (m := m) (d := d)
    obtain ⟨k, hk⟩ : ∃ k, k = way.cut s m d := ⟨_, rfl⟩
    rw [← hk] at hlow hn ⊢
    have key : ∀ K : Nat, 1074 ≤ K → k * 2 ^ K ≤ V m e K + 2 ^ K ∧ V m e K ≤ k * 2 ^ K + 2 ^ K := by
      intro K hK
      unfold V
      obtain ⟨r, hr⟩ : ∃ r, r = (e + (K : Int)).toNat := ⟨_, rfl⟩
      have e1 : 2 ^ K = 2 ^ d * 2 ^ r := by rw [← Nat.pow_add]; congr 1; omega
      rw [← hr, e1]
      have a1 := Nat.mul_le_mul_right (2 ^ r) hn.1
      have a2 := Nat.mul_le_mul_right (2 ^ r) hn.2
      rw [Nat.add_mul, Nat.mul_assoc] at a1 a2
      rw [← Nat.mul_assoc] at *
      exact ⟨a1, by rw [Nat.mul_assoc] at *; exact a2⟩
    by_cases h0 : k = 0
    · subst h0
      rw [hz]
      refine ⟨0, -1074, rfl, Int.le_refl _, fun K hK => ?_⟩
      have := key K hK
      unfold V at *
      omega
    · obtain ⟨m', e', h1, h2, h3⟩ := write_exact (s := s) (j := 0) (e := 0) h0 hlow (by omega) (by have := (Nat.log2_lt h0).2 hlow; omega)
      rw [Nat.pow_zero, Nat.mul_one] at h1 h3
      refine ⟨m', e', h1, h2, fun K hK => ?_⟩
      rw [h3 K hK]
      have := key K hK
      have e0 : V k 0 K = k * 2 ^ K := by unfold V; congr 2; omega
      rw [e0]
      exact this
/-- A difference of two numbers of one sign. -/
theorem sub_same {w v m n : Nat} {s : Bool} {i j : Int} (h : FloatKind.f64.decode w = .number s m i) (k : FloatKind.f64.decode v = .number s n j) : ∃ D : Nat, fop .sub .f64 (some w) (some v) = some (FloatKind.f64.encode (.number (if D = 0 then false else decide (signed s m (i - min i j).toNat + signed (!s) n (j - min i j).toNat < 0)) D (min i j))) ∧ ∀ K : Nat, 0 ≤ min i j + K → V D (min i j) K + V n j K = V m i K ∨ V D (min i j) K + V m i K = V n j K := by
  refine ⟨(signed s m (i - min i j).toNat + signed (!s) n (j - min i j).toNat).natAbs, ?_, ?_⟩
  · have : fop .sub .f64 (some w) (some v) = some (FloatKind.f64.encode (.number (if signed s m (i - min i j).toNat + signed (!s) n (j - min i j).toNat = 0 then s && !s else signed s m (i - min i j).toNat + signed (!s) n (j - min i j).toNat < 0) (signed s m (i - min i j).toNat + signed (!s) n (j - min i j).toNat).natAbs (min i j))) := by
      show ((Format.read _ w).sum (Format.read _ v).opposite).map _ = _
      rw [show Format.read FloatKind.f64.format w = .number s m i from h, show Format.read FloatKind.f64.format v = .number s n j from k]
      rfl
    rw [this]
    congr 4
    · exact propext Int.natAbs_eq_zero.symm
    · cases s <;> rfl
  · intro K hK
    obtain ⟨r, hr⟩ : ∃ r, r = (min i j + (K : Int)).toNat := ⟨_, rfl⟩
    unfold V
    rw [← hr]
    have e1 : (i + (K : Int)).toNat = (i - min i j).toNat + r := by omega
    have e2 : (j + (K : Int)).toNat = (j - min i j).toNat + r := by omega
    rw [e1, e2, Nat.pow_add, Nat.pow_add, ← Nat.mul_assoc, ← Nat.mul_assoc, ← Nat.add_mul, ← Nat.add_mul]
    unfold signed
    simp only [Nat.shiftLeft_eq]
    generalize m * 2 ^ (i - min i j).toNat = A
    generalize n * 2 ^ (j - min i j).toNat = B
    cases s
    · simp only [Bool.not_false, if_true, Bool.false_eq_true, if_false]
      rcases Nat.le_total B A with h | h
      · left; congr 1; omega
      · right; congr 1; omega
    · simp only [Bool.not_true, if_true, Bool.false_eq_true, if_false]
      rcases Nat.le_total B A with h | h
      · left; congr 1; omega
      · right; congr 1; omega
/-- What is behind the whole part. -/
theorem frac_bnd {x : Option Nat} {b : Nat} {way : Toward} (h : Bnd x b) (hb : b ≤ 1022) : Bnd (fop .sub .f64 x (fInt way x)) 0 := by
  obtain ⟨w, s, m, i, rfl, h2, h3, h4⟩ := h
  have hl : m ≠ 0 → (m.log2 : Int) + i ≤ 1022 := fun h0 => by have := h4.log h0; omega
  obtain ⟨m', j, k1, k2, k3⟩ := int_num (way := way) h3 hl
  obtain ⟨D, d1, d2⟩ := sub_same h3 k1
  have hi := (dec_rng h3).2
  show Bnd (fop .sub .f64 (some w) (some (FloatKind.f64.encode ((FloatKind.f64.decode w).integral way)))) 0
  rw [d1]
  refine Bnd.of (lep_of (K := 1074) (by omega) ?_) (by decide)
  have a := d2 1074 (by omega)
  have c := k3 1074 (by omega)
  rw [Nat.zero_add]
  generalize 2 ^ 1074 = g at *
  omega
/-- What is written keeps its sign. -/
theorem wr_sign {s s' : Bool} {m m' : Nat} {e e' : Int} (h : FloatKind.f64.decode (FloatKind.f64.encode (.number s m e)) = .number s' m' e') : s' = s := by
  have hi : Format.infRung double = 9218868437227405312 := rfl
  have key : ∀ r, r ≤ 9218868437227405312 → Format.read double (double.word s r) = .number s' m' e' → s' = s := by
    intro r hr h
    rcases Nat.lt_or_eq_of_le hr with h1 | rfl
    · rw [read_num double s (by rw [hi]; exact h1)] at h
      split at h <;> cases h <;> rfl
    · exfalso
      revert h
      have : Format.read double (double.word s 9218868437227405312) = .infinity s := by cases s <;> decide +kernel
      rw [this]
      intro h; cases h
  have h : Format.read double (Format.nearest double s m e) = .number s' m' e' := h
  unfold Format.nearest at h
  split at h
  · exact key 0 (by decide) h
  · exact key _ (by rw [hi]; exact Nat.min_le_right _ _) h
/-- Something is written as something. -/
theorem write_pos {s : Bool} {m : Nat} {e : Int} (h0 : m ≠ 0) (he : -1074 ≤ e) (hl : (m.log2 : Int) + e ≤ 1022) {s' : Bool} {m' : Nat} {e' : Int} (h : FloatKind.f64.decode (FloatKind.f64.encode (.number s m e)) = .number s' m' e') : m' ≠ 0 := by
  obtain ⟨L, kept, hL, hk, m1, e1, h1, h2, h3⟩ := write_num (s := s) h0 hl
  rw [h] at h1
  cases h1
  have hv := h3 1074 (Nat.le_refl _)
  have hk0 : kept ≠ 0 := by
    rw [hk]
    by_cases hc : L ≤ e
    · rw [show (L - e).toNat = 0 by omega, cut_zero, Nat.shiftLeft_eq]
      exact Nat.mul_ne_zero h0 (Nat.pos_iff_ne_zero.1 (Nat.two_pow_pos _))
    · rw [show (e - L).toNat = 0 by omega, Nat.shiftLeft_eq, Nat.pow_zero, Nat.mul_one]
      have := cut_ge (s := s) (n := m) (d := (L - e).toNat) (N := 1) (by omega) (by
        rw [Nat.one_mul]
        exact Nat.le_trans (Nat.pow_le_pow_right (by decide) (by omega)) (Nat.log2_self_le h0))
      omega
  rintro rfl
  unfold V at hv
  rw [Nat.zero_mul] at hv
  exact absurd hv.symm (Nat.mul_ne_zero hk0 (Nat.pos_iff_ne_zero.1 (Nat.two_pow_pos _)))
def Near (x y : Nat) : Prop := 1024 * x ≤ 1025 * y ∧ 1024 * y ≤ 1025 * x
theorem near_write {s : Bool} {m : Nat} {e : Int} (h0 : m ≠ 0) (hlo : -1000 ≤ (m.log2 : Int) + e) (hhi : (m.log2 : Int) + e ≤ 1022) : ∃ m' e', FloatKind.f64.decode (FloatKind.f64.encode (.number s m e)) = .number s m' e' ∧ -1074 ≤ e' ∧ ∀ K : Nat, 1074 ≤ K → 0 ≤ e + K → Near (V m' e' K) (V m e K) := by
  obtain ⟨L, kept, hL, hk, m', e', h1, h2, h3⟩ := write_num (s := s) h0 hhi
  refine ⟨m', e', h1, h2, fun K hK hK' => ?_⟩
  rw [h3 K hK]
  by_cases hc : L ≤ e
  · rw [show (L - e).toNat = 0 by omega, cut_zero, Nat.shiftLeft_eq] at hk
    have : V kept L K = V m e K := by
      rw [hk]
      unfold V
      rw [Nat.mul_assoc, ← Nat.pow_add]; congr 2; omega
    rw [this]
    unfold Near; omega
  · obtain ⟨d, hd⟩ : ∃ d, d = (L - e).toNat := ⟨_, rfl⟩
    rw [show (e - L).toNat = 0 by omega, Nat.shiftLeft_eq, Nat.pow_zero, Nat.mul_one, ← hd] at hk
    have hn := cut_near (way := .even) (s := s) (m := m) (d := d)
    rw [← hk] at hn
    have h4 : 2 ^ 52 * 2 ^ d ≤ m := by
      rw [← Nat.pow_add]
      exact Nat.le_trans (Nat.pow_le_pow_right (by decide) (by omega)) (Nat.log2_self_le h0)
    unfold V Near
    rw [show (L + (K : Int)).toNat = d + (e + (K : Int)).toNat by omega, Nat.pow_add]
    rw [show kept * (2 ^ d * 2 ^ (e + (K : Int)).toNat) = (kept * 2 ^ d) * 2 ^ (e + (K : Int)).toNat from (Nat.mul_assoc _ _ _).symm]
    generalize kept * 2 ^ d = A at *
    generalize 2 ^ d = g at *
    generalize 2 ^ (e + (K : Int)).toNat = r
    simp only [Nat.reducePow] at h4
    have a1 : 1024 * A ≤ 1025 * m := by omega
    have a2 : 1024 * m ≤ 1025 * A := by omega
    have b1 := Nat.mul_le_mul_right r a1
    have b2 := Nat.mul_le_mul_right r a2
    rw [Nat.mul_assoc, Nat.mul_assoc] at b1 b2
    exact ⟨b1, b2⟩
theorem V_log {m : Nat} {e : Int} {K b : Nat} (hK : 0 ≤ e + K) (h : 2 ^ (b + K) ≤ V m e K) : m ≠ 0 ∧ (b : Int) ≤ (m.log2 : Int) + e := by
  have h0 : m ≠ 0 := by
    rintro rfl
    unfold V at h
    rw [Nat.zero_mul] at h
    have := Nat.two_pow_pos (b + K)
    omega
  refine ⟨h0, ?_⟩
  unfold V at h
  have h1 : m < 2 ^ (m.log2 + 1) := Nat.lt_log2_self
  have h2 : m * 2 ^ (e + K).toNat < 2 ^ (m.log2 + 1 + (e + K).toNat) := by
    rw [Nat.pow_add]
    exact Nat.mul_lt_mul_of_pos_right h1 (Nat.two_pow_pos _)
  have h3 := (Nat.pow_lt_pow_iff_right (by decide : 1 < 2)).1 (Nat.lt_of_le_of_lt h h2)
  omega
/-- A whole turn. -/
def circ : Nat := 4618760256179416344
theorem circ_dec : FloatKind.f64.decode circ = .number false 7074237752028440 (-50) := by decide +kernel
/-- An angle without whole turns, wide. -/
def wrapD (x : Option Nat) : Option Nat := fop .sub .f64 x (fop .mul .f64 (some circ) (fInt .even (fop .quo .f64 x (some circ))))
theorem circ_log : (7074237752028440 : Nat).log2 = 52 := by decide +kernel
theorem lep_circ : LeP 7074237752028440 (-50) 3 := lep_of (K := 50) (by decide) (by unfold V; decide +kernel)

theorem quo_num {w m v n : Nat} {s t : Bool} {i j : Int} (h3 : FloatKind.f64.decode w = .number s m i) (k3 : FloatKind.f64.decode v = .number t n j) (hn : n ≠ 0) : fop .quo .f64 (some w) (some v) = some (FloatKind.f64.encode (.number (s ^^ t) (2 * (m <<< (54 + n.log2 - m.log2) / n) + (m <<< (54 + n.log2 - m.log2) % n != 0).toNat) (i - j - (54 + n.log2 - m.log2 : Nat) - 1))) := by
  show ((Format.read _ w).quotient _ (Format.read _ v)).map _ = _
  rw [show Format.read FloatKind.f64.format w = .number s m i from h3, show Format.read FloatKind.f64.format v = .number t n j from k3]
  show (if n = 0 then _ else _ : Option Datum).map _ = _
  rw [if_neg hn]
  rfl
/-- The quotient by a whole turn. -/
theorem quo_circ {w m : Nat} {s : Bool} {i : Int} (h3 : FloatKind.f64.decode w = .number s m i) : ∃ (r more : Nat), more = 54 + 52 - m.log2 ∧ fop .quo .f64 (some w) (some circ) = some (FloatKind.f64.encode (.number s r (i + 49 - more))) ∧ 7074237752028440 * r ≤ 2 * (m * 2 ^ more) + 7074237752028440 ∧ 2 * (m * 2 ^ more) ≤ 7074237752028440 * r + 2 * 7074237752028440 := by
  obtain ⟨more, hmore⟩ : ∃ more, more = 54 + 52 - m.log2 := ⟨_, rfl⟩
  refine ⟨2 * (m <<< more / 7074237752028440) + (m <<< more % 7074237752028440 != 0).toNat, more, hmore, ?_, ?_, ?_⟩
  · rw [quo_num h3 circ_dec (by decide), circ_log, ← hmore, Bool.xor_false, show i - -50 - (more : Int) - 1 = i + 49 - more by omega]
  · rw [Nat.shiftLeft_eq]
    generalize m * 2 ^ more = X
    have hb : (X % 7074237752028440 != 0).toNat ≤ 1 := Bool.toNat_le _
    generalize (X % 7074237752028440 != 0).toNat = b at *
    omega
  · rw [Nat.shiftLeft_eq]
    generalize m * 2 ^ more = X
    generalize (X % 7074237752028440 != 0).toNat = b at *
    omega

theorem near_mul {x y c : Nat} (h : Near x y) : Near (c * x) (c * y) := by
  unfold Near at *
  have a := Nat.mul_le_mul_left c h.1
  have b := Nat.mul_le_mul_left c h.2
  rw [Nat.mul_left_comm c 1024, Nat.mul_left_comm c 1025] at a b
  exact ⟨a, b⟩
theorem mul_circ {v n : Nat} {s : Bool} {j : Int} (k3 : FloatKind.f64.decode v = .number s n j) : fop .mul .f64 (some circ) (some v) = some (FloatKind.f64.encode (.number s (7074237752028440 * n) (-50 + j))) := by
  show ((Format.read _ circ).product (Format.read _ v)).map _ = _
  rw [show Format.read FloatKind.f64.format v = .number s n j from k3, show Format.read FloatKind.f64.format circ = .number false _ _ from circ_dec]
  show some (FloatKind.f64.encode (.number (false ^^ s) _ _)) = _
  rw [Bool.false_xor]
/-- The last step. -/
theorem wrap_tail {w tw m mn mp : Nat} {s : Bool} {i en ep : Int} {c : Nat} (h3 : FloatKind.f64.decode w = .number s m i) (ht : fop .quo .f64 (some w) (some circ) = some tw) (hn : FloatKind.f64.decode (FloatKind.f64.encode ((FloatKind.f64.decode tw).integral .even)) = .number s mn en)
    (hp : FloatKind.f64.decode (FloatKind.f64.encode (.number s (7074237752028440 * mn) (-50 + en))) = .number s mp ep) (hc : 1074 ≤ c) (h1 : V m i c ≤ V mp ep c + 2 ^ (126 + c)) (h2 : V mp ep c ≤ V m i c + 2 ^ (126 + c)) : ∃ D e sg, wrapD (some w) = some (FloatKind.f64.encode (.number sg D e)) ∧ (D = 0 → sg = false) ∧ -1074 ≤ e ∧ LeP D e 126 := by
  obtain ⟨D, d1, d2⟩ := sub_same h3 hp
  have hi := (dec_rng h3).2
  have hep := (dec_rng hp).2
  refine ⟨D, min i ep, (if D = 0 then false else decide (signed s m (i - min i ep).toNat + signed (!s) mp (ep - min i ep).toNat < 0)), ?_, ?_, by omega, ?_⟩
  · unfold wrapD
    rw [ht]
    show fop .sub .f64 (some w) (fop .mul .f64 (some circ) (some (FloatKind.f64.encode ((FloatKind.f64.decode tw).integral .even)))) = _
    rw [mul_circ hn]
    exact d1
  · intro h; rw [if_pos h]
  · refine lep_of (K := c) (by omega) ?_
    have := d2 c (by omega)
    omega
theorem wrap_d {w m : Nat} {s : Bool} {i : Int} (h2 : w < 2 ^ 64) (h3 : FloatKind.f64.decode w = .number s m i) (h4 : LeP m i 128) : ∃ D e sg, wrapD (some w) = some (FloatKind.f64.encode (.number sg D e)) ∧ (D = 0 → sg = false) ∧ -1074 ≤ e ∧ LeP D e 126 := by
  obtain ⟨hm, hi⟩ := dec_rng h3
  by_cases hs : LeP m i 60
  · have hb : Bnd (fop .quo .f64 (some w) (some circ)) 61 := Bnd.quo (a := 60) ⟨w, s, m, i, rfl, h2, h3, hs⟩ circ_dec (by decide) (by
      intro K hK
      obtain ⟨r, hr⟩ : ∃ r, r = (-50 + (K : Int)).toNat := ⟨_, rfl⟩
      rw [← hr, show K = 50 + r by omega, Nat.pow_add]
      exact Nat.mul_le_mul_right _ (by decide)) (by decide)
    obtain ⟨r, more, _, hq, _, _⟩ := quo_circ h3
    obtain ⟨tw, s1, mt, et, e1, e2, e3, e4⟩ := hb
    rw [hq] at e1
    cases e1
    have := wr_sign e3
    subst this
    obtain ⟨mn, en, n1, n2, n3⟩ := int_num (way := .even) e3 (fun h0 => by have := e4.log h0; omega)
    obtain ⟨c, hc⟩ : ∃ c : Nat, c = 1074 := ⟨_, rfl⟩
    have hlN : LeP mn en 62 := lep_of (K := c) (by omega) (by
      have a := (n3 c (by omega)).1
      have b := e4 c (by have := (dec_rng e3).2; omega)
      rw [Nat.pow_add] at b
      rw [Nat.pow_add]
      generalize V mn en c = N at *
      generalize V mt et c = T at *
      generalize 2 ^ c = g at *
      simp only [Nat.reducePow] at *
      omega)
    obtain ⟨mp, ep, p1, p2, p3⟩ := write_le (s := s1) (lep_circ.prod hlN) (by decide)
    have ha := hs c (by omega)
    have hpv := p2 c (by omega)
    refine wrap_tail (c := c) h3 hq n1 p1 (by omega) ?_ ?_
    · rw [Nat.pow_add] at ha ⊢
      generalize V m i c = A at *
      generalize V mp ep c = P at *
      generalize 2 ^ c = g at *
      simp only [Nat.reducePow, Nat.reduceAdd] at *
      omega
    · rw [Nat.pow_add] at hpv ⊢
      generalize V m i c = A at *
      generalize V mp ep c = P at *
      generalize 2 ^ c = g at *
      simp only [Nat.reducePow, Nat.reduceAdd] at *
      omega
  · -- a great one
    have hlarge : ∀ K : Nat, 0 ≤ i + K → 2 ^ (60 + K) ≤ V m i K := by
      intro K hK
      rcases Nat.le_total (V m i K) (2 ^ (60 + K)) with h | h
      · exact absurd (lep_of hK h) hs
      · exact h
    obtain ⟨c, hc⟩ : ∃ c : Nat, c = 1074 := ⟨_, rfl⟩
    obtain ⟨hm0, hlg⟩ := V_log (m := m) (e := i) (K := c) (b := 60) (by omega) (hlarge c (by omega))
    have hlu := h4.log hm0
    have hlm : m.log2 < 53 := (Nat.log2_lt hm0).2 hm
    obtain ⟨r, more, hmore, hq, q1, q2⟩ := quo_circ h3
    have hX : 2 ^ 106 ≤ m * 2 ^ more := by
      have a := Nat.mul_le_mul_right (2 ^ more) (Nat.log2_self_le hm0)
      rw [← Nat.pow_add, show m.log2 + more = 106 by omega] at a
      exact a
    have hX2 : m * 2 ^ more < 2 ^ 107 := by
      have a := Nat.mul_lt_mul_of_pos_right (Nat.lt_log2_self (n := m)) (Nat.two_pow_pos more)
      rw [← Nat.pow_add, show m.log2 + 1 + more = 107 by omega] at a
      exact a
    obtain ⟨X, hXe⟩ : ∃ X, X = m * 2 ^ more := ⟨_, rfl⟩
    rw [← hXe] at hX hX2 q1 q2
    have hr0 : r ≠ 0 := by rintro rfl; omega
    have hrl : 54 ≤ r.log2 := (Nat.le_log2 hr0).2 (by omega)
    have hru : r.log2 < 58 := (Nat.log2_lt hr0).2 (by omega)
    obtain ⟨mt, et, t1, t2, t3⟩ := near_write (s := s) (m := r) (e := i + 49 - more) hr0 (by omega) (by omega)
    obtain ⟨K, hK⟩ : ∃ K : Nat, K = 1074 + (-(i + 49 - more)).toNat := ⟨_, rfl⟩
    have hT := t3 K (by omega) (by omega)
    -- the quotient against the angle
    have hQ : Near (7074237752028440 * V r (i + 49 - more) K) (2 ^ 50 * V m i K) := by
      unfold V
      obtain ⟨E, hE⟩ : ∃ E, E = (i + 49 - more + (K : Int)).toNat := ⟨_, rfl⟩
      have e1 : 2 ^ 50 * (m * 2 ^ (i + (K : Int)).toNat) = 2 * X * 2 ^ E := by
        rw [hXe, Nat.mul_left_comm, ← Nat.pow_add, Nat.mul_comm 2, Nat.mul_assoc m, Nat.mul_assoc m, ← Nat.pow_succ, ← Nat.pow_add]
        congr 2; omega
      rw [← hE, e1, ← Nat.mul_assoc]
      have a1 : 1024 * (7074237752028440 * r) ≤ 1025 * (2 * X) := by omega
      have a2 : 1024 * (2 * X) ≤ 1025 * (7074237752028440 * r) := by omega
      have b1 := Nat.mul_le_mul_right (2 ^ E) a1
      have b2 := Nat.mul_le_mul_right (2 ^ E) a2
      rw [Nat.mul_assoc 1024, Nat.mul_assoc 1025] at b1 b2
      exact ⟨b1, b2⟩
    have hA := hlarge K (by omega)
    have hAu := h4 K (by omega)
    rw [Nat.pow_add] at hA hAu
    have hTu : V mt et K ≤ 2 ^ (130 + K) ∧ 2 ^ (50 + K) ≤ V mt et K := by
      rw [Nat.pow_add, Nat.pow_add]
      unfold Near at *
      generalize V m i K = A at *
      generalize V r (i + 49 - more) K = Q at *
      generalize V mt et K = T at *
      generalize 2 ^ K = g at *
      simp only [Nat.reducePow] at *
      omega
    have hTlog : (mt.log2 : Int) + et ≤ 1022 := by
      have h0 := (V_log (m := mt) (e := et) (K := K) (b := 50) (by omega) hTu.2).1
      have := (lep_of (m := mt) (e := et) (b := 130) (by omega) hTu.1).log h0
      omega
    obtain ⟨mn, en, n1, n2, n3⟩ := int_num (way := .even) t1 (fun _ => hTlog)
    have hN := n3 K (by omega)
    rw [Nat.pow_add, Nat.pow_add] at hTu
    have hCN : Near (V mn en K) (V mt et K) := by
      unfold Near
      generalize V mt et K = T at *
      generalize V mn en K = N at *
      generalize 2 ^ K = g at *
      simp only [Nat.reducePow] at *
      omega
    have hNu : V mn en K ≤ 2 ^ (132 + K) ∧ 2 ^ (48 + K) ≤ V mn en K := by
      rw [Nat.pow_add, Nat.pow_add]
      generalize V mt et K = T at *
      generalize V mn en K = N at *
      generalize 2 ^ K = g at *
      simp only [Nat.reducePow] at *
      omega
    have hmn := V_log (m := mn) (e := en) (K := K) (b := 48) (by omega) hNu.2
    have hmu := (lep_of (m := mn) (e := en) (b := 132) (by omega) hNu.1).log hmn.1
    have hcl : (7074237752028440 * mn).log2 ≤ mn.log2 + 53 ∧ mn.log2 ≤ (7074237752028440 * mn).log2 := by
      have h9 : 7074237752028440 * mn ≠ 0 := Nat.mul_ne_zero (by decide) hmn.1
      constructor
      · have := (Nat.log2_lt h9 (k := mn.log2 + 54)).2 (by
          have a := Nat.lt_log2_self (n := mn)
          rw [show mn.log2 + 54 = 53 + (mn.log2 + 1) by omega, Nat.pow_add]
          generalize 2 ^ (mn.log2 + 1) = G at *
          simp only [Nat.reducePow]
          omega)
        omega
      · refine (Nat.le_log2 h9).2 (Nat.le_trans (Nat.log2_self_le hmn.1) (Nat.le_mul_of_pos_left _ (by decide)))
    obtain ⟨mp, ep, p1, p2, p3⟩ := near_write (s := s) (m := 7074237752028440 * mn) (e := -50 + en) (Nat.mul_ne_zero (by decide) hmn.1) (by omega) (by omega)
    have hP := p3 (K + 50) (by omega) (by omega)
    have eP : V (7074237752028440 * mn) (-50 + en) (K + 50) = 7074237752028440 * V mn en K := by
      unfold V
      rw [Nat.mul_assoc]; congr 3; omega
    have eA : V m i (K + 50) = 2 ^ 50 * V m i K := by rw [V_shift (by omega), Nat.mul_comm]
    rw [eP] at hP
    have hT' := near_mul (c := 7074237752028440) hT
    have hN' := near_mul (c := 7074237752028440) hCN
    have hAu' : V m i (K + 50) ≤ 2 ^ 128 * 2 ^ (K + 50) := by rw [← Nat.pow_add]; exact h4 _ (by omega)
    rw [← eA] at hQ
    have fin : V m i (K + 50) ≤ V mp ep (K + 50) + 2 ^ (126 + (K + 50)) ∧ V mp ep (K + 50) ≤ V m i (K + 50) + 2 ^ (126 + (K + 50)) := by
      rw [Nat.pow_add 2 126]
      clear hT hCN q1 q2 hX hX2 hTu hNu hAu hA hN hlarge
      unfold Near at *
      generalize V m i (K + 50) = A at *
      generalize 7074237752028440 * V r (i + 49 - more) K = Q at *
      generalize 7074237752028440 * V mt et K = T at *
      generalize 7074237752028440 * V mn en K = N at *
      generalize V mp ep (K + 50) = P at *
      generalize 2 ^ (K + 50) = g at *
      simp only [Nat.reducePow] at *
      omega
    exact wrap_tail (c := K + 50) h3 hq n1 p1 (by omega) fin.1 fin.2
end Go.Ab
end
/- Floats: sines, cosines, angles without whole turns: values and bounds. -/
section
namespace Go.Ab
open Ieee
theorem negF_dec {w m : Nat} {s : Bool} {e : Int} (h : FloatKind.f64.decode w = .number s m e) : FloatKind.f64.decode (Op.negFloat .f64 w) = .number (!s) m e := by
  have hx : Op.negFloat .f64 w = w ^^^ 2 ^ 63 := rfl
  have hs : Format.signWeight FloatKind.f64.format = 2 ^ 63 := rfl
  have hr : (w ^^^ 2 ^ 63) % 2 ^ 63 = w % 2 ^ 63 := by
    rw [Nat.xor_mod_two_pow, Nat.mod_self, Nat.xor_zero]
  have hb : ((w ^^^ 2 ^ 63) / 2 ^ 63 % 2 == 1) = !(w / 2 ^ 63 % 2 == 1) := by
    have t := Nat.testBit_xor w (2 ^ 63) 63
    rw [Nat.testBit_two_pow_self, Nat.testBit_eq_decide_div_mod_eq, Nat.testBit_eq_decide_div_mod_eq, Bool.xor_true] at t
    exact t
  rw [hx]
  have h : Format.read FloatKind.f64.format w = .number s m e := h
  show Format.read FloatKind.f64.format (w ^^^ 2 ^ 63) = _
  unfold Format.read at h ⊢
  simp only [hs] at h ⊢
  rw [hr, hb]
  split at h
  · rename_i h1; rw [if_pos h1]; cases h; rfl
  · rename_i h1
    rw [if_neg h1]
    split at h
    · rename_i h2; rw [if_pos h2]; cases h; rfl
    · split at h <;> cases h
theorem Bnd.neg {x : Option Nat} {b : Nat} (h : Bnd x b) : Bnd (negA .f64 x) b := by
  obtain ⟨w, s, m, e, rfl, h2, h3, h4⟩ := h
  exact ⟨_, !s, m, e, rfl, Nat.xor_lt_two_pow h2 (by decide), negF_dec h3, h4⟩
theorem Bnd.lit {w : Nat} {b : Nat} (h : w < 2 ^ 64) {s : Bool} {m : Nat} {e : Int} (hd : FloatKind.f64.decode w = .number s m e) {K : Nat} (hK : 0 ≤ e + K) (hv : V m e K ≤ 2 ^ (b + K)) : Bnd (some w) b := ⟨w, s, m, e, rfl, h, hd, lep_of hK hv⟩
theorem Bnd.nar {x : Option Nat} {b : Nat} (h : Bnd x b) (hb : b ≤ 126) : f2f .f64 x .f32 = some (Go.Ab.nar x) ∧ fOk .f32 (Go.Ab.nar x) := by
  obtain ⟨y, h1, h2⟩ := h.narrow hb
  unfold Go.Ab.nar
  rw [h1]
  exact ⟨rfl, h2⟩

/-- 1 - y / c * s. -/
def hstep (y : Option Nat) (c : Nat) (s : Option Nat) : Option Nat := fop .sub .f64 (some 4607182418800017408) (fop .mul .f64 (fop .quo .f64 y (some c)) s)
def sinP (f : Option Nat) : Option Nat :=
  let x := fop .mul .f64 (some circ) f
  let y := fop .mul .f64 x x
  fop .mul .f64 (hstep y 4618441417868443648 (hstep y 4626322717216342016 (hstep y 4631107791820423168 (hstep y 4634766966517661696 (hstep y 4637440978796412928 (hstep y 4639692778610098176 (hstep y 4641592734702895104 (hstep y 4643492690795692032 (some 4607182418800017408))))))))) x
def half : Option Nat := some 4602678819172646912
def quarter : Option Nat := some 4598175219545276416
def frac (t : Option Nat) : Option Nat := fop .sub .f64 t (fInt .down t)
/-- Folded into the first quarter. -/
def fold (f : Option Nat) : Option Nat := if (ford .f64 quarter f == some .lt) = true then fop .sub .f64 half f else f
/-- The sine of so many turns, wide. -/
def sinX (t : Option Nat) : Option Nat :=
  if (ford .f64 half (frac t) == some .lt || ford .f64 half (frac t) == some .eq) = true then negA .f64 (sinP (fold (fop .sub .f64 (frac t) half))) else sinP (fold (frac t))
def sinV (t : Option Nat) : Option Nat := nar (sinX t)

theorem hstep_bnd {y s : Option Nat} {c n : Nat} {j : Int} {a : Nat} (hy : Bnd y 10) (hs : Bnd s a) (hc : FloatKind.f64.decode c = .number false n j) (hn : n ≠ 0) (h1 : ∀ K : Nat, 0 ≤ j + K → 2 ^ K ≤ n * 2 ^ (j + K).toNat) (ha : a + 12 ≤ 1022) : Bnd (hstep y c s) (a + 12) :=
  Bnd.sub (a := 0) (b := 11 + a) (Bnd.lit (by decide) (s := false) (m := 4503599627370496) (e := -52) (by decide +kernel) (K := 52) (by decide) (by decide +kernel)) ((Bnd.quo hy hc hn h1 (by omega)).mul hs (by omega)) (by omega) (by omega) ha
theorem ge_one {n k : Nat} (h : 2 ^ k ≤ n) : ∀ K : Nat, 0 ≤ (-(k : Int)) + K → 2 ^ K ≤ n * 2 ^ (-(k : Int) + K).toNat := by
  intro K hK
  obtain ⟨r, hr⟩ : ∃ r, r = (-(k : Int) + (K : Int)).toNat := ⟨_, rfl⟩
  rw [← hr, show K = k + r by omega, Nat.pow_add]
  exact Nat.mul_le_mul_right _ h
theorem one_bnd : Bnd (some 4607182418800017408) 0 := Bnd.lit (by decide) (s := false) (m := 4503599627370496) (e := -52) (by decide +kernel) (K := 52) (by decide) (by decide +kernel)
theorem half_bnd : Bnd half 0 := Bnd.lit (by decide) (s := false) (m := 4503599627370496) (e := -53) (by decide +kernel) (K := 53) (by decide) (by decide +kernel)
theorem circ_bnd : Bnd (some circ) 3 := ⟨circ, false, _, _, rfl, by decide, circ_dec, lep_circ⟩
theorem sinP_bnd {f : Option Nat} (h : Bnd f 2) : Bnd (sinP f) 101 := by
  have hx : Bnd (fop .mul .f64 (some circ) f) 5 := circ_bnd.mul h (by decide)
  have hy := hx.mul hx (by decide)
  unfold sinP
  simp only []
  have s1 := hstep_bnd (c := 4643492690795692032) hy one_bnd (n := 4785074604081152) (j := -44) (by decide +kernel) (by decide) (ge_one (k := 44) (by decide)) (by decide)
  have s2 := hstep_bnd (c := 4641592734702895104) hy s1 (n := 7388718138654720) (j := -45) (by decide +kernel) (by decide) (ge_one (k := 45) (by decide)) (by decide)
  have s3 := hstep_bnd (c := 4639692778610098176) hy s2 (n := 5488762045857792) (j := -45) (by decide +kernel) (by decide) (ge_one (k := 45) (by decide)) (by decide)
  have s4 := hstep_bnd (c := 4637440978796412928) hy s3 (n := 7740561859543040) (j := -46) (by decide +kernel) (by decide) (ge_one (k := 46) (by decide)) (by decide)
  have s5 := hstep_bnd (c := 4634766966517661696) hy s4 (n := 5066549580791808) (j := -46) (by decide +kernel) (by decide) (ge_one (k := 46) (by decide)) (by decide)
  have s6 := hstep_bnd (c := 4631107791820423168) hy s5 (n := 5910974510923776) (j := -47) (by decide +kernel) (by decide) (ge_one (k := 47) (by decide)) (by decide)
  have s7 := hstep_bnd (c := 4626322717216342016) hy s6 (n := 5629499534213120) (j := -48) (by decide +kernel) (by decide) (ge_one (k := 48) (by decide)) (by decide)
  have s8 := hstep_bnd (c := 4618441417868443648) hy s7 (n := 6755399441055744) (j := -50) (by decide +kernel) (by decide) (ge_one (k := 50) (by decide)) (by decide)
  exact s8.mul hx (by decide)
theorem fold_bnd {f : Option Nat} (h : Bnd f 1) : Bnd (fold f) 2 := by
  unfold fold
  split
  · exact half_bnd.sub h (by decide) (by decide) (by decide)
  · exact h.mono (by decide)
theorem sinX_bnd {t : Option Nat} {b : Nat} (h : Bnd t b) (hb : b ≤ 1022) : Bnd (sinX t) 101 := by
  have hf : Bnd (frac t) 0 := frac_bnd h hb
  unfold sinX
  split
  · exact (sinP_bnd (fold_bnd (hf.sub half_bnd (by decide) (by decide) (by decide)))).neg
  · exact sinP_bnd (fold_bnd (hf.mono (by decide)))
theorem sinV_ok {t : Option Nat} {b : Nat} (h : Bnd t b) (hb : b ≤ 1022) : f2f .f64 (sinX t) .f32 = some (sinV t) ∧ fOk .f32 (sinV t) := (sinX_bnd h hb).nar (by decide)
theorem dec_rng32 {w m : Nat} {s : Bool} {e : Int} (h : FloatKind.f32.decode w = .number s m e) : m < 2 ^ 24 ∧ -149 ≤ e ∧ e ≤ 104 := by
  have hb : Format.binade single = 8388608 := rfl
  have hi : Format.infRung single = 2139095040 := rfl
  have hl : Format.leastPlace single = -149 := rfl
  have h : Format.read single w = .number s m e := h
  unfold Format.read at h
  simp only [hb, hl, hi] at h
  split at h
  · cases h; exact ⟨by omega, by omega, by omega⟩
  · split at h
    · cases h
      have := Nat.mod_lt (w % single.signWeight) (show 0 < 8388608 by decide)
      exact ⟨by omega, by omega, by omega⟩
    · split at h <;> cases h
/-- A number that is no infinity and no NaN. -/
def fin32 (x : Option Nat) : Bool := ford .f32 (fop .sub .f32 x x) (some 0) == some .eq
theorem fin32_num {x : Option Nat} (h0 : fOk .f32 x) (h : fin32 x = true) : ∃ w s m e, x = some w ∧ FloatKind.f32.decode w = .number s m e := by
  cases x with
  | none => cases h
  | some w =>
    obtain ⟨h1, h2⟩ := h0 w rfl
    cases hd : FloatKind.f32.decode w with
    | nan s t => rw [hd] at h2; cases h2
    | number s m e => exact ⟨w, s, m, e, rfl, hd⟩
    | infinity s =>
      exfalso
      have e : fop .sub .f32 (some w) (some w) = none := by
        show ((Format.read _ w).sum (Format.read _ w).opposite).map _ = _
        rw [show Format.read FloatKind.f32.format w = .infinity s from hd]
        cases s <;> rfl
      unfold fin32 at h
      rw [e] at h
      cases h
theorem wid_num {w m : Nat} {s : Bool} {e : Int} (h : FloatKind.f32.decode w = .number s m e) : Bnd (wid (some w)) 128 := by
  obtain ⟨h1, h2, h3⟩ := dec_rng32 h
  have hl : LeP m e 128 := by
    intro K hK
    unfold V
    have a : m * 2 ^ (e + (K : Int)).toNat ≤ 2 ^ 24 * 2 ^ (104 + K) := Nat.mul_le_mul (by omega) (Nat.pow_le_pow_right (by decide) (by omega))
    rw [← Nat.pow_add, show 24 + (104 + K) = 128 + K by omega] at a
    exact a
  obtain ⟨m', e', k1, k2, k3⟩ := write_le (s := s) hl (by decide)
  have : wid (some w) = some (FloatKind.f64.encode (.number s m e)) := by
    unfold wid f2f
    simp only []
    unfold floatToFloatBits
    rw [if_neg (by decide), h]
    simp only []
    rw [k1]; rfl
  rw [this]
  exact ⟨_, s, m', e', rfl, FloatKind.f64.format.write_lt _, k1, k2⟩
theorem wid_bnd {x : Option Nat} (h0 : fOk .f32 x) (h : fin32 x = true) : Bnd (wid x) 128 := by
  obtain ⟨w, s, m, e, rfl, hd⟩ := fin32_num h0 h
  exact wid_num hd
theorem turns_bnd {y : Option Nat} (h : Bnd y 128) : Bnd (fop .quo .f64 y (some circ)) 129 := Bnd.quo h circ_dec (by decide) (by
  intro K hK
  obtain ⟨r, hr⟩ : ∃ r, r = (-50 + (K : Int)).toNat := ⟨_, rfl⟩
  rw [← hr, show K = 50 + r by omega, Nat.pow_add]
  exact Nat.mul_le_mul_right _ (by decide)) (by decide)
theorem quarter_bnd : Bnd quarter 0 := Bnd.lit (by decide) (s := false) (m := 4503599627370496) (e := -54) (by decide +kernel) (K := 54) (by decide) (by decide +kernel)
theorem turns4_bnd {y : Option Nat} (h : Bnd y 128) : Bnd (fop .add .f64 (fop .quo .f64 y (some circ)) quarter) 130 := (turns_bnd h).add quarter_bnd (by decide) (by decide) (by decide)
/-- The sine, the cosine of an angle. -/
def sinF (x : Option Nat) : Option Nat := if fin32 x = true then sinV (fop .quo .f64 (wid x) (some circ)) else none
def cosF (x : Option Nat) : Option Nat := if fin32 x = true then sinV (fop .add .f64 (fop .quo .f64 (wid x) (some circ)) quarter) else none
theorem none_ok {k : FloatKind} : fOk k none := fun c hc => by cases hc
theorem sinF_ok {x : Option Nat} (h : fOk .f32 x) : fOk .f32 (sinF x) := by
  unfold sinF
  split
  · rename_i h1; exact (sinV_ok (turns_bnd (wid_bnd h h1)) (by decide)).2
  · exact none_ok
theorem cosF_ok {x : Option Nat} (h : fOk .f32 x) : fOk .f32 (cosF x) := by
  unfold cosF
  split
  · rename_i h1; exact (sinV_ok (turns4_bnd (wid_bnd h h1)) (by decide)).2
  · exact none_ok
theorem wrapD_bnd {y : Option Nat} (h : Bnd y 128) : Bnd (wrapD y) 126 := by
  obtain ⟨w, s, m, i, rfl, h2, h3, h4⟩ := h
  obtain ⟨D, e, sg, e1, _, _, e4⟩ := wrap_d h2 h3 h4
  rw [e1]
  exact Bnd.of e4 (by decide)
/-- A difference that is zero is the positive zero. -/
theorem wrapD_zero {y : Option Nat} (h : Bnd y 128) (hz : (ford .f64 (wrapD y) (some 0) == some .eq) = true) : wrapD y = some 0 := by
  obtain ⟨w, s, m, i, rfl, h2, h3, h4⟩ := h
  obtain ⟨D, e, sg, e1, e2, e3, e4⟩ := wrap_d h2 h3 h4
  rw [e1] at hz ⊢
  by_cases h0 : D = 0
  · rw [e2 h0, h0]
    rfl
  · exfalso
    obtain ⟨m', e', k1, _, _⟩ := write_le (s := sg) e4 (by decide)
    have hp := write_pos h0 e3 (by have := e4.log h0; omega) k1
    have : ford .f64 (some (FloatKind.f64.encode (.number sg D e))) (some 0) = (Datum.number sg m' e').order (.number false 0 (-1074)) := by
      show (FloatKind.f64.decode _).order (FloatKind.f64.decode 0) = _
      rw [k1, show FloatKind.f64.decode 0 = .number false 0 (-1074) by decide +kernel]
    rw [this] at hz
    unfold Datum.order at hz
    simp only [beq_iff_eq, Option.some.injEq, Int.compare_eq_eq] at hz
    unfold signed at hz
    simp only [Nat.shiftLeft_eq, Nat.zero_mul] at hz
    have hq : m' * 2 ^ (e' - min e' (-1074)).toNat ≠ 0 := Nat.mul_ne_zero hp (Nat.pos_iff_ne_zero.1 (Nat.two_pow_pos _))
    generalize m' * 2 ^ (e' - min e' (-1074)).toNat = q at *
    cases sg <;> simp at hz <;> omega
/-- Half a turn. -/
def pi32 : Option Nat := some 1078530011
def npi32 : Option Nat := some 3226013659
def clampV (o : Option Nat) : Option Nat := if (ford .f32 pi32 o == some .lt) = true then pi32 else if (ford .f32 o npi32 == some .lt) = true then npi32 else o
def wrapV (y : Option Nat) : Option Nat := clampV (nar (wrapD y))
def wrapF (x : Option Nat) : Option Nat := if fin32 x = true then wrapV (wid x) else none
theorem pi_ok : fOk .f32 pi32 := by intro b hb; cases hb; exact ⟨by decide, by decide +kernel⟩
theorem npi_ok : fOk .f32 npi32 := by intro b hb; cases hb; exact ⟨by decide, by decide +kernel⟩
theorem clampV_ok {o : Option Nat} (h : fOk .f32 o) : fOk .f32 (clampV o) := by
  unfold clampV
  split
  · exact pi_ok
  · split
    · exact npi_ok
    · exact h
theorem wrapF_ok {x : Option Nat} (h : fOk .f32 x) : fOk .f32 (wrapF x) := by
  unfold wrapF
  split
  · rename_i h1; exact clampV_ok ((wrapD_bnd (wid_bnd h h1)).nar (by decide)).2
  · exact none_ok
def maxF (k : FloatKind) (a b : Option Nat) : Option Nat := match ford k a b with
  | none => none
  | some .lt => b
  | some .gt => a
  | some .eq => if (k.decode (a.getD 0)).neg then b else a
def minF (k : FloatKind) (a b : Option Nat) : Option Nat := match ford k a b with
  | none => none
  | some .lt => a
  | some .gt => b
  | some .eq => if (k.decode (a.getD 0)).neg then a else b
theorem kd_env {c : Cx} {s : St} {vs : List AV} {ls : List (Nat × Nat)} {H : AHeap} {E : Env} (h : In c s vs ls H) (hE : EnvOk s.env vs ls E) (t : Nat) {kd : Kd} (e : ((findA t s.env).bind fun v => match v with | .nd _ k => some k | _ => none) = some kd) : HasKd kd (E t) := by
  rw [Option.bind_eq_some_iff] at e
  obtain ⟨v, h1, h2⟩ := e
  have := hE t v h1
  cases v <;> cases h2
  simp only [D] at this
  exact this.2
theorem cv_ff {H : AHeap} {E : Env} {t : Nat} {x y : Option Nat} (h : E t = .flt .f64 x) (e : f2f .f64 x .f32 = some y) : aval E H.get (.conv (.ff .f32) (.tmp t)) = some (.flt .f32 y) := by
  show convA _ _ (E t) = _
  rw [h]
  show (f2f .f64 x .f32).map _ = _
  rw [e]; rfl
theorem nar_some {x : Option Nat} {b : Nat} (h : Bnd x b) (hb : b ≤ 126) : (nar x).isSome = true := by
  obtain ⟨w, s, m, e, rfl, h2, h3, h4⟩ := h
  have hf := f32_fin (s := s) (h4.mono hb)
  unfold nar f2f
  simp only []
  unfold floatToFloatBits
  rw [if_neg (by decide), h3]
  simp only []
  rw [hf]; rfl
theorem pi_dec : FloatKind.f32.decode 1078530011 = .number false 13176795 (-22) := by decide +kernel
theorem npi_dec : FloatKind.f32.decode 3226013659 = .number true 13176795 (-22) := by decide +kernel
theorem not_both {w : Nat} (h1 : ford .f32 pi32 (some w) = some .lt) (h2 : ford .f32 (some w) npi32 = some .lt) : False := by
  have h1 : (FloatKind.f32.decode 1078530011).order (FloatKind.f32.decode w) = some .lt := h1
  have h2 : (FloatKind.f32.decode w).order (FloatKind.f32.decode 3226013659) = some .lt := h2
  rw [pi_dec] at h1
  rw [npi_dec] at h2
  cases hd : FloatKind.f32.decode w with
  | nan s t => rw [hd] at h1; cases h1
  | infinity s =>
    rw [hd] at h1 h2
    cases s
    · simp [Datum.order] at h2
    · simp [Datum.order] at h1
  | number s m e =>
    rw [hd] at h1 h2
    unfold Datum.order at h1 h2
    simp only [Option.some.injEq, Int.compare_eq_lt] at h1 h2
    unfold signed at h1 h2
    simp only [Nat.shiftLeft_eq] at h1 h2
    cases s
    · simp only [Bool.false_eq_true, if_false, if_true] at h2
      generalize (m * 2 ^ (e - min e (-22)).toNat : Nat) = q at h2
      omega
    · simp only [Bool.false_eq_true, if_false, if_true] at h1
      generalize (m * 2 ^ (e - min (-22) e).toNat : Nat) = q at h1
      omega
theorem ford_some {w v : Nat} {k : FloatKind} (h : (k.decode w).isNaN = false) (h' : (k.decode v).isNaN = false) : ∃ o, ford k (some w) (some v) = some o := by
  show ∃ o, (k.decode w).order (k.decode v) = some o
  cases h1 : k.decode w <;> cases h2 : k.decode v <;> first | (rw [h1] at h; cases h; done) | (rw [h2] at h'; cases h'; done) | exact ⟨_, rfl⟩
/-- Clamped by min and max. -/
theorem clamp_mm {o : Option Nat} (h : fOk .f32 o) (hs : o.isSome = true) : minF .f32 pi32 (maxF .f32 npi32 o) = clampV o := by
  cases o with
  | none => cases hs
  | some w =>
    have hw := (h w rfl).2
    obtain ⟨a, ha⟩ := ford_some (k := .f32) (w := 3226013659) (v := w) (by rw [npi_dec]; rfl) hw
    obtain ⟨c, hc⟩ := ford_some (k := .f32) (w := 1078530011) (v := w) (by rw [pi_dec]; rfl) hw
    have hn : FloatKind.f32.decode (npi32.getD 0) = _ := npi_dec
    have hp : FloatKind.f32.decode (pi32.getD 0) = _ := pi_dec
    have hx : ford .f32 (some w) npi32 = (some a).map Ordering.swap := by rw [ford_swap, show ford .f32 npi32 (some w) = some a from ha]
    have hno : ¬ (c = .lt ∧ a = .gt) := by
      rintro ⟨rfl, rfl⟩
      exact not_both hc hx
    have hmax : maxF .f32 npi32 (some w) = if a = .gt then npi32 else some w := by
      unfold maxF
      rw [show ford .f32 npi32 (some w) = some a from ha, hn]
      cases a <;> rfl
    rw [hmax]
    have hcl : clampV (some w) = if c = .lt then pi32 else if a = .gt then npi32 else some w := by
      unfold clampV
      rw [show ford .f32 pi32 (some w) = some c from hc, hx]
      cases c <;> cases a <;> rfl
    rw [hcl]
    by_cases h1 : a = .gt
    · subst h1
      have : c ≠ .lt := fun e => hno ⟨e, rfl⟩
      rw [if_pos rfl, if_neg this]
      decide +kernel
    · rw [if_neg h1]
      unfold minF
      rw [show ford .f32 pi32 (some w) = some c from hc, hp]
      cases c <;> rfl
end Go.Ab
end
/- Floats: absolute values, limits, quotients that are numbers, integers out of floats. -/
section
namespace Go.Ab
open Ieee
end Go.Ab
end
/- Floats: nought and a number; products in either order. -/
section
namespace Go.Ab
open Ieee
end Go.Ab
end
