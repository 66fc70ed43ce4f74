/- Floats: bounds of results; narrowing. -/
import Derived.Test.YtgjhjemmddojfaaSxA
import Derived.Test.YtgjhjemmddojfaaAbD
import Derived.Test.YtgjhjemmddojfaaSxD
import Derived.Test.YtgjhjemmddojfaaSxC
set_option linter.unusedVariables false
set_option linter.unusedSimpArgs false
section
namespace Go.Ab
open Ieee
/-- What is not too great is written in single precision as a number. -/
theorem f32_fin {s : Bool} {m : Nat} {e : Int} (h : LeP m e 126) : (FloatKind.f32.decode (FloatKind.f32.encode (.number s m e))).isInfinity = false := by
  have hb : Format.binade single = 8388608 := rfl
  have hi : Format.infRung single = 2139095040 := rfl
  have hl : Format.leastPlace single = -149 := rfl
  have hf : single.fractionBits = 23 := rfl
  show (Format.read single (Format.nearest single s m e)).isInfinity = false
  by_cases h0 : m = 0
  · subst h0
    show (Format.read single (single.word s 0)).isInfinity = false
    cases s <;> decide +kernel
  · have hlog := h.log h0
    have hhi : m < 2 ^ (m.log2 + 1) := Nat.lt_log2_self
    obtain ⟨L, hL⟩ : ∃ L : Int, L = max (e + m.log2 - 23) (-149) := ⟨_, rfl⟩
    obtain ⟨kept, hk⟩ : ∃ kept, kept = Toward.even.cut s (m <<< (e - L).toNat) (L - e).toNat := ⟨_, rfl⟩
    have hkle : kept ≤ 2 ^ 24 := by
      rw [hk]
      refine cut_le ?_
      rw [Nat.shiftLeft_eq]
      have h1 : m * 2 ^ (e - L).toNat ≤ 2 ^ (m.log2 + 1 + (e - L).toNat) := by
        rw [Nat.pow_add]; exact Nat.mul_le_mul_right _ (Nat.le_of_lt hhi)
      refine Nat.le_trans h1 ?_
      rw [← Nat.pow_add]
      refine Nat.pow_le_pow_right (by decide) ?_
      omega
    simp only [Nat.reducePow] at hkle
    have hr : (L + 149).toNat * 8388608 + kept < 2139095040 := by omega
    have hw : Format.nearest single s m e = single.word s ((L + 149).toNat * 8388608 + kept) := by
      unfold Format.nearest
      rw [if_neg h0]
      simp only [hf, hl, hb, hi]
      rw [show max (e + (m.log2 : Int) - ((23 : Nat) : Int)) (-149) = L from hL.symm, ← hk, show L - -149 = L + 149 by omega]
      rw [Nat.min_eq_left (Nat.le_of_lt hr)]
    rw [hw, read_num single s (by rw [hi]; exact hr)]
    split <;> rfl
/-- A double that is a number of at most 2 ^ b. -/
def Bnd (x : Option Nat) (b : Nat) : Prop := ∃ w s m e, x = some w ∧ w < 2 ^ 64 ∧ FloatKind.f64.decode w = .number s m e ∧ LeP m e b
theorem Bnd.mono {x : Option Nat} {b c : Nat} (h : Bnd x b) (hc : b ≤ c) : Bnd x c := by
  obtain ⟨w, s, m, e, h1, h2, h3, h4⟩ := h
  exact ⟨w, s, m, e, h1, h2, h3, h4.mono hc⟩
theorem Bnd.ok {x : Option Nat} {b : Nat} (h : Bnd x b) : fOk .f64 x := by
  obtain ⟨w, s, m, e, rfl, h2, h3, h4⟩ := h
  intro c hc
  cases hc
  exact ⟨h2, by rw [h3]; rfl⟩
/-- A number that is not too great, written. -/
theorem Bnd.of {s : Bool} {m : Nat} {e : Int} {b : Nat} (h : LeP m e b) (hb : b ≤ 1022) : Bnd (some (FloatKind.f64.encode (.number s m e))) b := by
  obtain ⟨m', e', h1, h2, _⟩ := write_le (s := s) h hb
  exact ⟨_, s, m', e', rfl, FloatKind.f64.format.write_lt _, h1, h2⟩
/-- Narrowing gives a number. -/
theorem Bnd.narrow {x : Option Nat} {b : Nat} (h : Bnd x b) (hb : b ≤ 126) : ∃ y, f2f .f64 x .f32 = some y ∧ fOk .f32 y := by
  obtain ⟨w, s, m, e, rfl, h2, h3, h4⟩ := h
  have hf := f32_fin (s := s) (h4.mono hb)
  refine ⟨some (FloatKind.f32.encode (.number s m e)), ?_, ?_⟩
  · show (floatToFloatBits .f64 w .f32).map some = _
    unfold floatToFloatBits
    rw [if_neg (by decide), h3]
    simp only []
    rw [hf]; rfl
  · intro c hc
    cases hc
    exact ⟨FloatKind.f32.format.write_lt _, (nrm_some (nrm_write .f32 (d := .number _ _ _) rfl)).2⟩
theorem LeP.prod {m n : Nat} {i j : Int} {a b : Nat} (h : LeP m i a) (k : LeP n j b) : LeP (m * n) (i + j) (a + b) := by
  have h1 := h (-i).toNat (by omega)
  have k1 := k (-j).toNat (by omega)
  refine lep_of (K := (-i).toNat + (-j).toNat) (by omega) ?_
  unfold V at *
  have e1 : (i + j + (((-i).toNat + (-j).toNat : Nat) : Int)).toNat = (i + ((-i).toNat : Int)).toNat + (j + ((-j).toNat : Int)).toNat := by omega
  rw [e1, Nat.pow_add, show m * n * (2 ^ (i + ((-i).toNat : Int)).toNat * 2 ^ (j + ((-j).toNat : Int)).toNat) = (m * 2 ^ (i + ((-i).toNat : Int)).toNat) * (n * 2 ^ (j + ((-j).toNat : Int)).toNat) by
    rw [Nat.mul_mul_mul_comm]]
  refine Nat.le_trans (Nat.mul_le_mul h1 k1) ?_
  rw [← Nat.pow_add]
  exact Nat.pow_le_pow_right (by decide) (by omega)
theorem Bnd.mul {x y : Option Nat} {a b : Nat} (h : Bnd x a) (k : Bnd y b) (hab : a + b ≤ 1022) : Bnd (fop .mul .f64 x y) (a + b) := by
  obtain ⟨w, s, m, i, rfl, h2, h3, h4⟩ := h
  obtain ⟨v, t, n, j, rfl, k2, k3, k4⟩ := k
  have : fop .mul .f64 (some w) (some v) = some (FloatKind.f64.encode (.number (s ^^ t) (m * n) (i + j))) := by
    show ((Format.read _ w).product (Format.read _ v)).map _ = _
    rw [show Format.read FloatKind.f64.format w = .number s m i from h3, show Format.read FloatKind.f64.format v = .number t n j from k3]
    rfl
  rw [this]
  exact Bnd.of (h4.prod k4) hab
theorem signed_abs (s : Bool) (m k : Nat) : (signed s m k).natAbs = m * 2 ^ k := by
  unfold signed
  cases s
  · exact (Int.natAbs_natCast _).trans (Nat.shiftLeft_eq _ _)
  · exact (Int.natAbs_neg _).trans ((Int.natAbs_natCast _).trans (Nat.shiftLeft_eq _ _))
theorem LeP.summ {s t : Bool} {m n : Nat} {i j : Int} {a b c : Nat} (h : LeP m i a) (k : LeP n j b) (ha : a < c) (hb : b < c) : LeP (signed s m (i - min i j).toNat + signed t n (j - min i j).toNat).natAbs (min i j) c := by
  obtain ⟨K, hK⟩ : ∃ K : Nat, K = (-i).toNat + (-j).toNat := ⟨_, rfl⟩
  have h1 := h K (by omega)
  have k1 := k K (by omega)
  refine lep_of (K := K) (by omega) ?_
  unfold V at *
  have e := Int.natAbs_add_le (signed s m (i - min i j).toNat) (signed t n (j - min i j).toNat)
  rw [signed_abs, signed_abs] at e
  refine Nat.le_trans (Nat.mul_le_mul_right _ e) ?_
  rw [Nat.add_mul, Nat.mul_assoc, Nat.mul_assoc, ← Nat.pow_add, ← Nat.pow_add, show (i - min i j).toNat + (min i j + (K : Int)).toNat = (i + K).toNat by omega, show (j - min i j).toNat + (min i j + (K : Int)).toNat = (j + K).toNat by omega]
  have p1 : 2 ^ (a + K) ≤ 2 ^ (c - 1 + K) := Nat.pow_le_pow_right (by decide) (by omega)
  have p2 : 2 ^ (b + K) ≤ 2 ^ (c - 1 + K) := Nat.pow_le_pow_right (by decide) (by omega)
  have p3 : 2 ^ (c + K) = 2 ^ (c - 1 + K) * 2 := by rw [← Nat.pow_succ]; congr 1; omega
  omega
theorem Bnd.sub {x y : Option Nat} {a b c : Nat} (h : Bnd x a) (k : Bnd y b) (ha : a < c) (hb : b < c) (hc : c ≤ 1022) : Bnd (fop .sub .f64 x y) c := by
  obtain ⟨w, s, m, i, rfl, h2, h3, h4⟩ := h
  obtain ⟨v, t, n, j, rfl, k2, k3, k4⟩ := k
  have : fop .sub .f64 (some w) (some v) = some (FloatKind.f64.encode (.number (if signed s m (i - min i j).toNat + signed (!t) n (j - min i j).toNat = 0 then s && !t else signed s m (i - min i j).toNat + signed (!t) n (j - min i j).toNat < 0) (signed s m (i - min i j).toNat + signed (!t) n (j - min i j).toNat).natAbs (min i j))) := by
    show ((Format.read _ w).sum (Format.read _ v).opposite).map _ = _
    rw [show Format.read FloatKind.f64.format w = .number s m i from h3, show Format.read FloatKind.f64.format v = .number t n j from k3]
    rfl
  rw [this]
  exact Bnd.of (h4.summ k4 ha hb) hc
theorem Bnd.add {x y : Option Nat} {a b c : Nat} (h : Bnd x a) (k : Bnd y b) (ha : a < c) (hb : b < c) (hc : c ≤ 1022) : Bnd (fop .add .f64 x y) c := by
  obtain ⟨w, s, m, i, rfl, h2, h3, h4⟩ := h
  obtain ⟨v, t, n, j, rfl, k2, k3, k4⟩ := k
  have : fop .add .f64 (some w) (some v) = some (FloatKind.f64.encode (.number (if signed s m (i - min i j).toNat + signed t n (j - min i j).toNat = 0 then s && t else signed s m (i - min i j).toNat + signed t n (j - min i j).toNat < 0) (signed s m (i - min i j).toNat + signed t n (j - min i j).toNat).natAbs (min i j))) := by
    show ((Format.read _ w).sum (Format.read _ v)).map _ = _
    rw [show Format.read FloatKind.f64.format w = .number s m i from h3, show Format.read FloatKind.f64.format v = .number t n j from k3]
    rfl
  rw [this]
  exact Bnd.of (h4.summ k4 ha hb) hc
/-- Dividing by a number that is at least 1. -/
theorem Bnd.quo {x : Option Nat} {a v n : Nat} {t : Bool} {j : Int} (h : Bnd x a) (k3 : FloatKind.f64.decode v = .number t n j) (hn : n ≠ 0) (h1 : ∀ K : Nat, 0 ≤ j + K → 2 ^ K ≤ n * 2 ^ (j + K).toNat) (ha : a + 1 ≤ 1022) : Bnd (fop .quo .f64 x (some v)) (a + 1) := by
  obtain ⟨w, s, m, i, rfl, h2, h3, h4⟩ := h
  obtain ⟨more, hmore⟩ : ∃ more, more = 54 + n.log2 - m.log2 := ⟨_, rfl⟩
  have : fop .quo .f64 (some w) (some v) = some (FloatKind.f64.encode (.number (s ^^ t) (2 * (m <<< more / n) + (m <<< more % n != 0).toNat) (i - j - more - 1))) := by
    show ((Format.read _ w).quotient _ (Format.read _ v)).map _ = _
    rw [show Format.read FloatKind.f64.format w = .number s m i from h3, show Format.read FloatKind.f64.format v = .number t n j from k3]
    show (if n = 0 then _ else _ : Option Datum).map _ = _
    rw [if_neg hn, hmore]
    rfl
  rw [this]
  refine Bnd.of ?_ ha
  obtain ⟨K1, hK1⟩ : ∃ K1 : Nat, K1 = (-(i - j - more - 1)).toNat := ⟨_, rfl⟩
  obtain ⟨K2, hK2⟩ : ∃ K2 : Nat, K2 = (-j).toNat + (-(i - more - 1)).toNat + (-i).toNat := ⟨_, rfl⟩
  refine lep_of (K := K1) (by omega) ?_
  unfold V
  have hv := h4 (K1 + K2) (by omega)
  unfold V at hv
  have hd := h1 K2 (by omega)
  have hdm := Nat.div_mul_le_self (m <<< more) n
  rw [Nat.shiftLeft_eq] at hdm ⊢
  by_cases h0 : m = 0
  · subst h0
    simp
  · -- at least one whole
    have hq : 1 ≤ m * 2 ^ more / n := by
      rw [Nat.le_div_iff_mul_le (Nat.pos_of_ne_zero hn), Nat.one_mul]
      have e1 : n < 2 ^ (n.log2 + 1) := Nat.lt_log2_self
      have e2 : 2 ^ m.log2 ≤ m := Nat.log2_self_le h0
      have e3 : 2 ^ (n.log2 + 1) ≤ 2 ^ (m.log2 + more) := Nat.pow_le_pow_right (by decide) (by omega)
      have e4 : 2 ^ m.log2 * 2 ^ more ≤ m * 2 ^ more := Nat.mul_le_mul_right _ e2
      rw [← Nat.pow_add] at e4
      omega
    have hb : (m * 2 ^ more % n != 0).toNat ≤ 1 := by cases (m * 2 ^ more % n != 0) <;> decide
    obtain ⟨q, hqe⟩ : ∃ q, q = m * 2 ^ more / n := ⟨_, rfl⟩
    obtain ⟨r, hre⟩ : ∃ r, r = 2 * q + (m * 2 ^ more % n != 0).toNat := ⟨_, rfl⟩
    rw [← hqe] at hq hdm
    rw [← hqe, ← hre]
    have hr4 : r ≤ 4 * q := by omega
    -- r * n * 2 ^ .. against m
    have key : r * 2 ^ (i - j - more - 1 + (K1 : Int)).toNat * (n * 2 ^ (j + (K2 : Int)).toNat) ≤ 2 ^ (a + 1 + K1) * 2 ^ K2 := by
      have e1 : r * 2 ^ (i - j - more - 1 + (K1 : Int)).toNat * (n * 2 ^ (j + (K2 : Int)).toNat) = (r * n) * 2 ^ (i - more - 1 + (K1 : Int) + (K2 : Int)).toNat := by
        rw [Nat.mul_mul_mul_comm, ← Nat.pow_add]
        congr 2; omega
      rw [e1]
      have e2 : r * n ≤ 4 * (m * 2 ^ more) := by
        refine Nat.le_trans (Nat.mul_le_mul_right n hr4) ?_
        rw [Nat.mul_assoc]
        exact Nat.mul_le_mul_left 4 hdm
      refine Nat.le_trans (Nat.mul_le_mul_right _ e2) ?_
      have e3 : 4 * (m * 2 ^ more) * 2 ^ (i - more - 1 + (K1 : Int) + (K2 : Int)).toNat = 2 * (m * 2 ^ (i + ((K1 + K2 : Nat) : Int)).toNat) := by
        have e4 : 2 ^ more * 2 ^ (i - more - 1 + (K1 : Int) + (K2 : Int)).toNat * 2 = 2 ^ (i + ((K1 + K2 : Nat) : Int)).toNat := by
          rw [← Nat.pow_add, ← Nat.pow_succ]; congr 1; omega
        rw [← e4]
        generalize 2 ^ more = A
        generalize 2 ^ (i - more - 1 + (K1 : Int) + (K2 : Int)).toNat = B
        have x1 : 4 * (m * A) * B = 4 * (m * (A * B)) := by rw [Nat.mul_assoc 4, Nat.mul_assoc m]
        have x2 : m * (A * B * 2) = m * (A * B) * 2 := (Nat.mul_assoc _ _ _).symm
        rw [x1, x2]
        omega
      rw [e3, ← Nat.pow_add]
      have e5 : 2 ^ (a + 1 + K1 + K2) = 2 * 2 ^ (a + (K1 + K2)) := by rw [← Nat.pow_succ']; congr 1; omega
      rw [e5]
      exact Nat.mul_le_mul_left 2 hv
    have : r * 2 ^ (i - j - more - 1 + (K1 : Int)).toNat * 2 ^ K2 ≤ 2 ^ (a + 1 + K1) * 2 ^ K2 := Nat.le_trans (Nat.mul_le_mul_left _ hd) key
    exact Nat.le_of_mul_le_mul_right this (Nat.two_pow_pos K2)
end Go.Ab
end
/- Floats: square roots are not too great. -/
section
namespace Go.Ab
open Ieee
theorem rootFrom_sq (n : Nat) : ∀ (todo r : Nat), r * r ≤ n → Datum.rootFrom n todo r * Datum.rootFrom n todo r ≤ n
  | 0, r, h => h
  | todo + 1, r, h => by
    unfold Datum.rootFrom
    simp only []
    split
    · rename_i h1; exact rootFrom_sq n todo _ h1
    · exact rootFrom_sq n todo r h
theorem rootFrom_ge (n : Nat) : ∀ (todo r : Nat), r ≤ Datum.rootFrom n todo r
  | 0, r => Nat.le_refl _
  | todo + 1, r => by
    unfold Datum.rootFrom
    simp only []
    split
    · exact Nat.le_trans (Nat.le_add_right _ _) (rootFrom_ge n todo _)
    · exact rootFrom_ge n todo r
theorem rootFrom_pos (n : Nat) (h : 1 ≤ n) : ∀ (todo : Nat), 1 ≤ todo → 1 ≤ Datum.rootFrom n todo 0
  | 0, h1 => by omega
  | todo + 1, _ => by
    unfold Datum.rootFrom
    simp only [Nat.zero_add]
    split
    · refine Nat.le_trans ?_ (rootFrom_ge n todo _)
      rw [Nat.one_shiftLeft]; exact Nat.one_le_two_pow
    · rename_i h2
      cases todo with
      | zero => exact absurd h (by simpa using h2)
      | succ k => exact rootFrom_pos n h (k + 1) (by omega)
theorem sqrt_bnd {w m : Nat} {s : Bool} {i : Int} {b c : Nat} (h3 : FloatKind.f64.decode w = .number s m i) (h4 : LeP m i b) (hc : b + 4 ≤ 2 * c) (hc2 : c ≤ 1022) : FloatKind.f64.format.sqrt w = none ∨ Bnd (FloatKind.f64.format.sqrt w) c := by
  have e : FloatKind.f64.format.sqrt w = ((Datum.number s m i).root (FloatKind.f64.format.fractionBits + 2)).map FloatKind.f64.format.write := by
    show ((Format.read _ w).root _).map _ = _
    rw [show Format.read FloatKind.f64.format w = .number s m i from h3]
  rw [e]
  unfold Datum.root
  simp only []
  by_cases h0 : m = 0
  · rw [if_pos h0]
    subst h0
    exact .inr (Bnd.of lep_zero hc2)
  · rw [if_neg h0]
    cases s with
    | true => left; rfl
    | false =>
      right
      rw [if_neg (by decide)]
      simp only [Option.map_some]
      refine Bnd.of ?_ hc2
      obtain ⟨m0, hm0⟩ : ∃ m0, m0 = 2 * (FloatKind.f64.format.fractionBits + 2) - m.log2 := ⟨_, rfl⟩
      rw [← hm0]
      obtain ⟨more, hmore⟩ : ∃ more, more = m0 + ((i - (m0 : Int)) % 2).toNat := ⟨_, rfl⟩
      rw [← hmore]
      have hev : (i - (more : Int)) % 2 = 0 := by omega
      obtain ⟨n, hn⟩ : ∃ n, n = m <<< more := ⟨_, rfl⟩
      rw [← hn]
      have hn1 : 1 ≤ n := by
        rw [hn, Nat.shiftLeft_eq]
        exact Nat.mul_pos (Nat.pos_of_ne_zero h0) (Nat.two_pow_pos _)
      obtain ⟨q, hq⟩ : ∃ q, q = Datum.rootFrom n (n.log2 / 2 + 1) 0 := ⟨_, rfl⟩
      rw [← hq]
      have hq2 : q * q ≤ n := by rw [hq]; exact rootFrom_sq n _ 0 (Nat.zero_le _)
      have hq1 : 1 ≤ q := by rw [hq]; exact rootFrom_pos n hn1 _ (by omega)
      obtain ⟨r, hr⟩ : ∃ r, r = 2 * q + (q * q != n).toNat := ⟨_, rfl⟩
      rw [← hr]
      have hb : (q * q != n).toNat ≤ 1 := by cases (q * q != n) <;> decide
      have hr3 : r ≤ 3 * q := by omega
      obtain ⟨E, hE⟩ : ∃ E : Int, E = (i - (more : Int)) / 2 - 1 := ⟨_, rfl⟩
      rw [← hE]
      have h2E : 2 * E = i - more - 2 := by omega
      obtain ⟨K, hK⟩ : ∃ K : Nat, K = (-E).toNat + (-i).toNat := ⟨_, rfl⟩
      refine lep_of (K := K) (by omega) ?_
      unfold V
      have hv := h4 (2 * K) (by omega)
      unfold V at hv
      have hsq : (r * 2 ^ (E + (K : Int)).toNat) * (r * 2 ^ (E + (K : Int)).toNat) ≤ 2 ^ (c + K) * 2 ^ (c + K) := by
        rw [Nat.mul_mul_mul_comm, ← Nat.pow_add, ← Nat.pow_add]
        have e1 : r * r ≤ 9 * n := by
          have := Nat.mul_le_mul hr3 hr3
          rw [Nat.mul_mul_mul_comm] at this
          omega
        refine Nat.le_trans (Nat.mul_le_mul_right _ e1) ?_
        rw [hn, Nat.shiftLeft_eq]
        have e2 : 2 ^ more * 2 ^ ((E + (K : Int)).toNat + (E + (K : Int)).toNat) * 4 = 2 ^ (i + ((2 * K : Nat) : Int)).toNat := by
          rw [← Nat.pow_add, show (4 : Nat) = 2 ^ 2 from rfl, ← Nat.pow_add]; congr 1; omega
        have e3 : 9 * (m * 2 ^ more) * 2 ^ ((E + (K : Int)).toNat + (E + (K : Int)).toNat) ≤ 16 * (m * 2 ^ (i + ((2 * K : Nat) : Int)).toNat) := by
          rw [← e2]
          generalize 2 ^ more = A
          generalize 2 ^ ((E + (K : Int)).toNat + (E + (K : Int)).toNat) = B
          have x1 : 9 * (m * A) * B = 9 * (m * (A * B)) := by rw [Nat.mul_assoc 9, Nat.mul_assoc m]
          have x2 : m * (A * B * 4) = m * (A * B) * 4 := (Nat.mul_assoc _ _ _).symm
          rw [x1, x2]
          omega
        refine Nat.le_trans e3 ?_
        refine Nat.le_trans (Nat.mul_le_mul_left 16 hv) ?_
        rw [show (16 : Nat) = 2 ^ 4 from rfl, ← Nat.pow_add]
        exact Nat.pow_le_pow_right (by decide) (by omega)
      exact Nat.mul_self_le_mul_self_iff.1 hsq
/-- What is narrowed to no infinity is not too great. -/
theorem f32_bnd {s : Bool} {m : Nat} {e : Int} (h : (FloatKind.f32.decode (FloatKind.f32.encode (.number s m e))).isInfinity = false) : LeP m e 128 := by
  by_cases h0 : m = 0
  · subst h0; exact lep_zero
  have hb : Format.binade single = 8388608 := rfl
  have hi : Format.infRung single = 2139095040 := rfl
  have hl : Format.leastPlace single = -149 := rfl
  have hf : single.fractionBits = 23 := rfl
  have hhi : m < 2 ^ (m.log2 + 1) := Nat.lt_log2_self
  have hlo : 2 ^ m.log2 ≤ m := Nat.log2_self_le h0
  have hlog : (m.log2 : Int) + e ≤ 127 := by
    rcases Int.lt_or_le 127 ((m.log2 : Int) + e) with hgt | hle
    · exfalso
      obtain ⟨L, hL⟩ : ∃ L : Int, L = max (e + m.log2 - 23) (-149) := ⟨_, rfl⟩
      obtain ⟨kept, hk⟩ : ∃ kept, kept = Toward.even.cut s (m <<< (e - L).toNat) (L - e).toNat := ⟨_, rfl⟩
      have hkge : 2 ^ 23 ≤ kept := by
        rw [hk]
        by_cases hc : L ≤ e
        · have e2 : (L - e).toNat = 0 := by omega
          rw [e2]
          refine cut_ge (Nat.zero_le _) ?_
          rw [Nat.pow_zero, Nat.mul_one, Nat.shiftLeft_eq]
          have : 2 ^ 23 = 2 ^ m.log2 * 2 ^ (e - L).toNat := by rw [← Nat.pow_add]; congr 1; omega
          rw [this]
          exact Nat.mul_le_mul_right _ hlo
        · have e2 : (e - L).toNat = 0 := by omega
          rw [e2, Nat.shiftLeft_eq, Nat.pow_zero, Nat.mul_one]
          refine cut_ge (by omega) ?_
          rw [← Nat.pow_add]
          refine Nat.le_trans (Nat.pow_le_pow_right (by decide) ?_) hlo
          omega
      simp only [Nat.reducePow] at hkge
      have hw : FloatKind.f32.encode (.number s m e) = single.word s 2139095040 := by
        show Format.nearest single s m e = _
        unfold Format.nearest
        rw [if_neg h0]
        simp only [hf, hl, hb, hi]
        rw [show max (e + (m.log2 : Int) - ((23 : Nat) : Int)) (-149) = L from hL.symm, ← hk, show L - -149 = L + 149 by omega]
        rw [Nat.min_eq_right (by omega)]
      rw [hw] at h
      revert h
      cases s <;> decide +kernel
    · exact hle
  obtain ⟨K, hK⟩ : ∃ K : Nat, K = (-e).toNat := ⟨_, rfl⟩
  refine lep_of (K := K) (by omega) ?_
  unfold V
  refine Nat.le_trans (Nat.mul_le_mul_right _ (Nat.le_of_lt hhi)) ?_
  rw [← Nat.pow_add]
  exact Nat.pow_le_pow_right (by decide) (by omega)
theorem sqrt_n {x : Option Nat} (h : HasKd .f64n (.flt .f64 x)) : HasKd .f64n (.flt .f64 (fSqrt x)) := by
  obtain ⟨x', e, ho, hn⟩ := h
  cases e
  have none_ok : HasKd .f64n (.flt .f64 none) := ⟨none, rfl, fun c hc => (by cases hc), rfl⟩
  cases x with
  | none => exact none_ok
  | some w =>
    obtain ⟨h1, h2⟩ := ho w rfl
    show HasKd .f64n (.flt .f64 (FloatKind.f64.format.sqrt w))
    generalize hd : FloatKind.f64.decode w = d at h2
    cases d with
    | nan s t => cases h2
    | infinity s =>
      have e : FloatKind.f64.format.sqrt w = ((Datum.infinity s).root (FloatKind.f64.format.fractionBits + 2)).map FloatKind.f64.format.write := by
        show ((Format.read _ w).root _).map _ = _
        rw [show Format.read FloatKind.f64.format w = .infinity s from hd]
      rw [e]
      cases s with
      | true => exact none_ok
      | false => exact ⟨_, rfl, (fun c hc => by cases hc; exact ⟨by decide +kernel, by decide +kernel⟩), by decide +kernel⟩
    | number s m i =>
      have hl : LeP m i 128 := by
        refine f32_bnd (s := s) ?_
        have hn : ((floatToFloatBits .f64 w .f32).map some).isSome = true := hn
        unfold floatToFloatBits at hn
        rw [if_neg (by decide), hd] at hn
        simp only [] at hn
        cases hi : (FloatKind.f32.decode (FloatKind.f32.encode (.number s m i))).isInfinity with
        | false => rfl
        | true => rw [hi] at hn; cases hn
      rcases sqrt_bnd (c := 66) hd hl (by omega) (by omega) with e | hB
      · rw [e]; exact none_ok
      · obtain ⟨y, hy, _⟩ := hB.narrow (by omega)
        exact ⟨_, rfl, hB.ok, by rw [hy]; rfl⟩
end Go.Ab
end
/- Floats: exact writing; integral values; angles without whole turns. -/
section
namespace Go.Ab
open Ieee
end Go.Ab
end
/- Floats: sines, cosines, angles without whole turns: values and bounds. -/
section
namespace Go.Ab
open Ieee
theorem negF_dec {w m : Nat} {s : Bool} {e : Int} (h : FloatKind.f64.decode w = .number s m e) : FloatKind.f64.decode (Op.negFloat .f64 w) = .number (!s) m e := by
  have hx : Op.negFloat .f64 w = w ^^^ 2 ^ 63 := rfl
  have hs : Format.signWeight FloatKind.f64.format = 2 ^ 63 := rfl
  have hr : (w ^^^ 2 ^ 63) % 2 ^ 63 = w % 2 ^ 63 := by
    rw [Nat.xor_mod_two_pow, Nat.mod_self, Nat.xor_zero]
  have hb : ((w ^^^ 2 ^ 63) / 2 ^ 63 % 2 == 1) = !(w / 2 ^ 63 % 2 == 1) := by
    have t := Nat.testBit_xor w (2 ^ 63) 63
    rw [Nat.testBit_two_pow_self, Nat.testBit_eq_decide_div_mod_eq, Nat.testBit_eq_decide_div_mod_eq, Bool.xor_true] at t
    exact t
  rw [hx]
  have h : Format.read FloatKind.f64.format w = .number s m e := h
  show Format.read FloatKind.f64.format (w ^^^ 2 ^ 63) = _
  unfold Format.read at h ⊢
  simp only [hs] at h ⊢
  rw [hr, hb]
  split at h
  · rename_i h1; rw [if_pos h1]; cases h; rfl
  · rename_i h1
    rw [if_neg h1]
    split at h
    · rename_i h2; rw [if_pos h2]; cases h; rfl
    · split at h <;> cases h
theorem Bnd.neg {x : Option Nat} {b : Nat} (h : Bnd x b) : Bnd (negA .f64 x) b := by
  obtain ⟨w, s, m, e, rfl, h2, h3, h4⟩ := h
  exact ⟨_, !s, m, e, rfl, Nat.xor_lt_two_pow h2 (by decide), negF_dec h3, h4⟩
theorem Bnd.lit {w : Nat} {b : Nat} (h : w < 2 ^ 64) {s : Bool} {m : Nat} {e : Int} (hd : FloatKind.f64.decode w = .number s m e) {K : Nat} (hK : 0 ≤ e + K) (hv : V m e K ≤ 2 ^ (b + K)) : Bnd (some w) b := ⟨w, s, m, e, rfl, h, hd, lep_of hK hv⟩
/-- A number that is no infinity and no NaN. -/
def fin32 (x : Option Nat) : Bool := ford .f32 (fop .sub .f32 x x) (some 0) == some .eq
theorem fin32_num {x : Option Nat} (h0 : fOk .f32 x) (h : fin32 x = true) : ∃ w s m e, x = some w ∧ FloatKind.f32.decode w = .number s m e := by
  cases x with
  | none => cases h
  | some w =>
    obtain ⟨h1, h2⟩ := h0 w rfl
    cases hd : FloatKind.f32.decode w with
    | nan s t => rw [hd] at h2; cases h2
    | number s m e => exact ⟨w, s, m, e, rfl, hd⟩
    | infinity s =>
      exfalso
      have e : fop .sub .f32 (some w) (some w) = none := by
        show ((Format.read _ w).sum (Format.read _ w).opposite).map _ = _
        rw [show Format.read FloatKind.f32.format w = .infinity s from hd]
        cases s <;> rfl
      unfold fin32 at h
      rw [e] at h
      cases h
theorem wid_n {x : Option Nat} (h : fOk .f32 x) : HasKd .f64n (.flt .f64 (wid x)) := by
  obtain ⟨y, h1, h2, h3⟩ := widen_ok h
  have : wid x = y := by unfold wid; rw [h1]; rfl
  rw [this]
  exact ⟨y, rfl, h2, h3⟩
theorem none_ok {k : FloatKind} : fOk k none := fun c hc => by cases hc
theorem kd_env {c : Cx} {s : St} {vs : List AV} {ls : List (Nat × Nat)} {H : AHeap} {E : Env} (h : In c s vs ls H) (hE : EnvOk s.env vs ls E) (t : Nat) {kd : Kd} (e : ((findA t s.env).bind fun v => match v with | .nd _ k => some k | _ => none) = some kd) : HasKd kd (E t) := by
  rw [Option.bind_eq_some_iff] at e
  obtain ⟨v, h1, h2⟩ := e
  have := hE t v h1
  cases v <;> cases h2
  simp only [D] at this
  exact this.2
end Go.Ab
end
/- Floats: absolute values, limits, quotients that are numbers, integers out of floats. -/
section
namespace Go.Ab
open Ieee
def fAbs (x : Option Nat) : Option Nat := x.map (· % 9223372036854775808)
theorem abs_dec (w : Nat) : FloatKind.f64.decode (w % 9223372036854775808) = match FloatKind.f64.decode w with
    | .number _ m e => .number false m e
    | .infinity _ => .infinity false
    | .nan _ t => .nan false t := by
  have hs : Format.signWeight FloatKind.f64.format = 9223372036854775808 := rfl
  show Format.read FloatKind.f64.format (w % 9223372036854775808) = match Format.read FloatKind.f64.format w with
    | .number _ m e => .number false m e
    | .infinity _ => .infinity false
    | .nan _ t => .nan false t
  unfold Format.read
  simp only [hs]
  have h1 : w % 9223372036854775808 % 9223372036854775808 = w % 9223372036854775808 := by omega
  have h2 : (w % 9223372036854775808 / 9223372036854775808 % 2 == 1) = false := by
    rw [Nat.div_eq_of_lt (Nat.mod_lt _ (by decide))]; rfl
  rw [h1, h2]
  split
  · rfl
  · split
    · rfl
    · split <;> rfl
theorem fAbs_ok {x : Option Nat} (h : fOk .f64 x) : fOk .f64 (fAbs x) := by
  cases x with
  | none => exact none_ok
  | some w =>
    intro b hb
    cases hb
    obtain ⟨h1, h2⟩ := h w rfl
    refine ⟨Nat.lt_of_lt_of_le (Nat.mod_lt _ (by decide)) (by decide), ?_⟩
    rw [abs_dec]
    generalize FloatKind.f64.decode w = d at h2
    cases d <;> first | rfl | (cases h2; done)
/-- One million, and the same below nought. -/
def mil : Option Nat := some 4696837146684686336
def nmil : Option Nat := some 13920209183539462144
theorem mil_dec : FloatKind.f64.decode 4696837146684686336 = .number false 8589934592000000 (-33) := by decide +kernel
theorem nmil_dec : FloatKind.f64.decode 13920209183539462144 = .number true 8589934592000000 (-33) := by decide +kernel
def bigC (q : Option Nat) : Bool := ford .f64 mil (fAbs q) == some .lt
theorem signed_f (m k : Nat) : signed false m k = ((m <<< k : Nat) : Int) := rfl
theorem signed_t (m k : Nat) : signed true m k = -((m <<< k : Nat) : Int) := rfl
theorem cmp_lt {a b : Int} : (some (compare a b) == some Ordering.lt) = decide (a < b) := by
  show (some (compareOfLessAndEq a b) == some Ordering.lt) = _
  unfold compareOfLessAndEq
  by_cases h : a < b
  · rw [if_pos h, decide_eq_true h]; rfl
  · rw [if_neg h, decide_eq_false h]; split <;> rfl
theorem cmp_eq {a b : Int} : (some (compare a b) == some Ordering.eq) = decide (a = b) := by
  show (some (compareOfLessAndEq a b) == some Ordering.eq) = _
  unfold compareOfLessAndEq
  by_cases h : a < b
  · rw [if_pos h, decide_eq_false (by omega)]; rfl
  · rw [if_neg h]
    by_cases h2 : a = b
    · rw [if_pos h2, decide_eq_true h2]; rfl
    · rw [if_neg h2, decide_eq_false h2]; rfl
theorem cmp_le {a b : Int} : (some (compare a b) == some Ordering.lt || some (compare a b) == some Ordering.eq) = decide (a ≤ b) := by
  rw [cmp_lt, cmp_eq, ← Bool.decide_or]
  exact decide_eq_decide.2 (by omega)
theorem big_eq {q : Option Nat} (h : fOk .f64 q) (hs : q.isSome = true) : bigC q = !((ford .f64 nmil q == some .lt || ford .f64 nmil q == some .eq) && (ford .f64 q mil == some .lt || ford .f64 q mil == some .eq)) := by
  cases q with
  | none => cases hs
  | some w =>
    obtain ⟨_, h2⟩ := h w rfl
    have ha := abs_dec w
    have ea : ford .f64 mil (fAbs (some w)) = (FloatKind.f64.decode 4696837146684686336).order (FloatKind.f64.decode (w % 9223372036854775808)) := rfl
    have eb : ford .f64 nmil (some w) = (FloatKind.f64.decode 13920209183539462144).order (FloatKind.f64.decode w) := rfl
    have ec : ford .f64 (some w) mil = (FloatKind.f64.decode w).order (FloatKind.f64.decode 4696837146684686336) := rfl
    unfold bigC
    rw [ea, eb, ec, ha, mil_dec, nmil_dec]
    cases hd : FloatKind.f64.decode w with
    | nan s t => rw [hd] at h2; cases h2
    | infinity s => cases s <;> rfl
    | number s m e =>
      show (some (compare (signed false 8589934592000000 (-33 - min (-33) e).toNat) (signed false m (e - min (-33) e).toNat)) == some Ordering.lt) = !((some (compare (signed true 8589934592000000 (-33 - min (-33) e).toNat) (signed s m (e - min (-33) e).toNat)) == some Ordering.lt || some (compare (signed true 8589934592000000 (-33 - min (-33) e).toNat) (signed s m (e - min (-33) e).toNat)) == some Ordering.eq) && (some (compare (signed s m (e - min e (-33)).toNat) (signed false 8589934592000000 (-33 - min e (-33)).toNat)) == some Ordering.lt || some (compare (signed s m (e - min e (-33)).toNat) (signed false 8589934592000000 (-33 - min e (-33)).toNat)) == some Ordering.eq))
      rw [cmp_lt, cmp_le, cmp_le, Int.min_comm e (-33)]
      generalize hA : m <<< (e - min (-33) e).toNat = A
      generalize hC : 8589934592000000 <<< (-33 - min (-33) e).toNat = C
      cases s
      · rw [signed_f, signed_f, signed_t, hA, hC, ← Bool.decide_and, ← decide_not]
        exact decide_eq_decide.2 (by omega)
      · rw [signed_f, signed_f, signed_t, signed_t, hA, hC, ← Bool.decide_and, ← decide_not]
        exact decide_eq_decide.2 (by omega)
theorem zcut {n d N : Nat} (h : n ≤ N * 2 ^ d) : ∀ s, Toward.zero.cut s n d ≤ N := by
  intro s
  unfold Toward.cut
  simp only [Bool.toNat_false, Nat.add_zero, Nat.shiftLeft_eq, Nat.one_mul]
  by_cases hd : d ≤ n.log2 + 2
  · rw [Nat.min_eq_left hd]
    exact Nat.div_le_of_le_mul (by rw [Nat.mul_comm]; exact h)
  · rw [Nat.min_eq_right (by omega)]
    have : n / 2 ^ (n.log2 + 2) = 0 := Nat.div_eq_of_lt (by
      have := Nat.lt_log2_self (n := n)
      exact Nat.lt_of_lt_of_le this (Nat.pow_le_pow_right (by decide) (by omega)))
    rw [this]; exact Nat.zero_le _
def intQ (q : Option Nat) : Int := (f2i .f64 q .i32).getD 0
theorem intQ_of {q : Option Nat} (h : fOk .f64 q) (hs : q.isSome = true) (hb : bigC q = false) : f2i .f64 q .i32 = some (intQ q) := by
  cases q with
  | none => cases hs
  | some w =>
    obtain ⟨_, h2⟩ := h w rfl
    have ea : ford .f64 mil (fAbs (some w)) = (FloatKind.f64.decode 4696837146684686336).order (FloatKind.f64.decode (w % 9223372036854775808)) := rfl
    unfold bigC at hb
    rw [ea, abs_dec w, mil_dec] at hb
    have : ∃ z, f2i .f64 (some w) .i32 = some z := by
      show ∃ z, floatToIntVal .f64 w .i32 = some z
      unfold floatToIntVal
      cases hd : FloatKind.f64.decode w with
      | nan s t => rw [hd] at h2; cases h2
      | infinity s => rw [hd] at hb; cases hb
      | number s m e =>
        rw [hd] at hb
        have hb : (some (compare (signed false 8589934592000000 (-33 - min (-33) e).toNat) (signed false m (e - min (-33) e).toNat)) == some Ordering.lt) = false := hb
        rw [cmp_lt, signed_f, signed_f] at hb
        have hb := of_decide_eq_false hb
        have hle : m <<< (e - min (-33) e).toNat ≤ 8589934592000000 <<< (-33 - min (-33) e).toNat := by omega
        rw [Nat.shiftLeft_eq, Nat.shiftLeft_eq] at hle
        have hcut : Toward.zero.cut s (m <<< e.toNat) (-e).toNat ≤ 1000000 := by
          refine zcut ?_ s
          rw [Nat.shiftLeft_eq]
          rcases Int.lt_or_le e (-33) with h1 | h1
          · rw [show (e - min (-33) e).toNat = 0 by omega, show e.toNat = 0 by omega] at *
            rw [show (-33 - min (-33) e).toNat = (-e).toNat - 33 by omega] at hle
            have : (8589934592000000 : Nat) * 2 ^ ((-e).toNat - 33) = 1000000 * 2 ^ (-e).toNat := by
              obtain ⟨k, hk⟩ : ∃ k, (-e).toNat = 33 + k := ⟨(-e).toNat - 33, by omega⟩
              rw [hk, Nat.add_sub_cancel_left, Nat.pow_add]
              omega
            omega
          · rw [show (-33 - min (-33) e).toNat = 0 by omega, show (e - min (-33) e).toNat = (e + 33).toNat by omega] at hle
            rcases Int.lt_or_le e 0 with h3 | h3
            · rw [show e.toNat = 0 by omega]
              obtain ⟨k, hk⟩ : ∃ k, (-e).toNat = k := ⟨_, rfl⟩
              have hk2 : 33 = k + (e + 33).toNat := by omega
              have e1 : (8589934592000000 : Nat) = 1000000 * 2 ^ k * 2 ^ (e + 33).toNat := by
                rw [Nat.mul_assoc, ← Nat.pow_add, ← hk2]
              rw [hk]
              rw [Nat.pow_zero, Nat.mul_one, e1] at hle
              have := Nat.le_of_mul_le_mul_right hle (Nat.pow_pos (by decide))
              omega
            · rw [show (-e).toNat = 0 by omega, Nat.pow_zero, Nat.mul_one]
              rw [show (e + 33).toNat = e.toNat + 33 by omega, Nat.pow_add, Nat.pow_zero, Nat.mul_one] at hle
              generalize 2 ^ e.toNat = P at *
              rw [← Nat.mul_assoc] at hle
              have h33 : (2 : Nat) ^ 33 = 8589934592 := by decide
              rw [h33] at hle
              omega
        have ht : (Datum.number s m e).toInt .zero = some (signed s (Toward.zero.cut s (m <<< e.toNat) (-e).toNat) 0) := rfl
        rw [ht]
        have hmin : IntKind.i32.min = -2147483648 := by decide
        have hmax : IntKind.i32.max = 2147483647 := by decide
        refine ⟨_, if_pos ?_⟩
        rw [hmin, hmax]
        generalize Toward.zero.cut s (m <<< e.toNat) (-e).toNat = c at hcut
        cases s
        · rw [signed_f, Nat.shiftLeft_zero]; omega
        · rw [signed_t, Nat.shiftLeft_zero]; omega
    obtain ⟨z, hz⟩ := this
    unfold intQ
    rw [hz]; rfl
/-- A number by a number that is not nought is no NaN. -/
theorem quo_some {x y : Option Nat} (hx : fOk .f32 x) (hy : fOk .f32 y) (fx : fin32 x = true) (fy : fin32 y = true) (h0 : (ford .f32 (some 0) y == some .lt) = true) : (fop .quo .f32 x y).isSome = true := by
  obtain ⟨w, s, m, e, rfl, hd⟩ := fin32_num hx fx
  obtain ⟨v, t, n, j, rfl, kd⟩ := fin32_num hy fy
  have hn : n ≠ 0 := by
    rintro rfl
    have e1 : ford .f32 (some 0) (some v) = (FloatKind.f32.decode 0).order (FloatKind.f32.decode v) := rfl
    have e0 : FloatKind.f32.decode 0 = .number false 0 (-149) := by decide +kernel
    rw [e1, kd, e0] at h0
    have h0 : (some (compare (signed false 0 (-149 - min (-149) j).toNat) (signed t 0 (j - min (-149) j).toNat)) == some Ordering.lt) = true := h0
    rw [cmp_lt, signed_f, Nat.zero_shiftLeft] at h0
    cases t
    · rw [signed_f, Nat.zero_shiftLeft] at h0; simp at h0
    · rw [signed_t, Nat.zero_shiftLeft] at h0; simp at h0
  show (((Format.read _ w).quotient _ (Format.read _ v)).map _).isSome = true
  rw [show Format.read FloatKind.f32.format w = .number s m e from hd, show Format.read FloatKind.f32.format v = .number t n j from kd]
  show ((if n = 0 then _ else _ : Option Datum).map _).isSome = true
  rw [if_neg hn]
  rfl
theorem wid_some {x : Option Nat} (h : fOk .f32 x) (hs : x.isSome = true) : (wid x).isSome = true := by
  cases x with
  | none => cases hs
  | some w =>
    obtain ⟨y, h1, _, _⟩ := widen_ok h
    have h2 := h1
    unfold f2f at h1
    simp only [Option.map_eq_some_iff] at h1
    obtain ⟨a, _, rfl⟩ := h1
    unfold wid; rw [h2]; rfl
theorem fInt_ok' (way : Toward) {x : Option Nat} (h : fOk .f64 x) : fOk .f64 (fInt way x) := by
  cases x with
  | none => exact none_ok
  | some w =>
    intro b hb
    cases hb
    obtain ⟨_, h2⟩ := h w rfl
    refine ⟨FloatKind.f64.format.write_lt _, (nrm_some (nrm_write .f64 ?_)).2⟩
    generalize FloatKind.f64.decode w = d at h2 ⊢
    cases d <;> first | (cases h2; done) | rfl
theorem fInt_some {way : Toward} {x : Option Nat} (hs : x.isSome = true) : (fInt way x).isSome = true := by
  cases x with
  | none => cases hs
  | some w => rfl
/-- Floor of a quotient. -/
def quoC (a s : Option Nat) : Option Nat := fInt .down (wid (fop .quo .f32 a s))
theorem quoC_some {x y : Option Nat} (hx : fOk .f32 x) (hy : fOk .f32 y) (fx : fin32 x = true) (fy : fin32 y = true) (h0 : (ford .f32 (some 0) y == some .lt) = true) : (quoC x y).isSome = true := fInt_some (wid_some fop_ok (quo_some hx hy fx fy h0))
theorem quoC_ok (x y : Option Nat) : fOk .f64 (quoC x y) := fInt_ok' _ (by
  obtain ⟨z, h2, h, _⟩ := wid_n (x := fop .quo .f32 x y) fop_ok
  cases h2
  exact h)
theorem cv_fi {H : AHeap} {E : Env} {t : Nat} {x : Option Nat} {k : IntKind} {z : Int} (h : E t = .flt .f64 x) (e : f2i .f64 x k = some z) : aval E H.get (.conv (.fi k) (.tmp t)) = some (.int k z) := by
  show convA (.fi k) H.get (E t) = _
  rw [h]
  show (f2i .f64 x k).map (AV.int k) = _
  rw [e]; rfl
end Go.Ab
end
/- Floats: nought and a number; products in either order. -/
section
namespace Go.Ab
open Ieee
end Go.Ab
end
