/- Floats: bounds of results; narrowing. -/
import Derived.Test.YtgjhjemmddojfaaSxA
import Derived.Test.YtgjhjemmddojfaaAbD
set_option linter.unusedVariables false
set_option linter.unusedSimpArgs false
section
namespace Go.Ab
open Ieee
/-- What is not too great is written in single precision as a number. -/
theorem f32_fin {s : Bool} {m : Nat} {e : Int} (h : LeP m e 126) : (FloatKind.f32.decode (FloatKind.f32.encode (.number s m e))).isInfinity = false := by
  have hb : Format.binade single = 8388608 := rfl
  have hi : Format.infRung single = 2139095040 := rfl
  have hl : Format.leastPlace single = -149 := rfl
  have hf : single.fractionBits = 23 := rfl
  show (Format.read single (Format.nearest single s m e)).isInfinity = false
  by_cases h0 : m = 0
  · subst h0
    show (Format.read single (single.word s 0)).isInfinity = false
    cases s <;> decide +kernel
  · have hlog := h.log h0
    have hhi : m < 2 ^ (m.log2 + 1) := Nat.lt_log2_self
    obtain ⟨L, hL⟩ : ∃ L : Int, L = max (e + m.log2 - 23) (-149) := ⟨_, rfl⟩
    obtain ⟨kept, hk⟩ : ∃ kept, kept = Toward.even.cut s (m <<< (e - L).toNat) (L - e).toNat := ⟨_, rfl⟩
    have hkle : kept ≤ 2 ^ 24 := by
      rw [hk]
      refine cut_le ?_
      rw [Nat.shiftLeft_eq]
      have h1 : m * 2 ^ (e - L).toNat ≤ 2 ^ (m.log2 + 1 + (e - L).toNat) := by
        rw [Nat.pow_add]; exact Nat.mul_le_mul_right _ (Nat.le_of_lt hhi)
      refine Nat.le_trans h1 ?_
      rw [← Nat.pow_add]
      refine Nat.pow_le_pow_right (by decide) ?_
      omega
    simp only [Nat.reducePow] at hkle
    have hr : (L + 149).toNat * 8388608 + kept < 2139095040 := by omega
    have hw : Format.nearest single s m e = single.word s ((L + 149).toNat * 8388608 + kept) := by
      unfold Format.nearest
      rw [if_neg h0]
      simp only [hf, hl, hb, hi]
      rw [show max (e + (m.log2 : Int) - ((23 : Nat) : Int)) (-149) = L from hL.symm, ← hk, show L - -149 = L + 149 by omega]
      rw [Nat.min_eq_left (Nat.le_of_lt hr)]
    rw [hw, read_num single s (by rw [hi]; exact hr)]
    split <;> rfl
/-- A double that is a number of at most 2 ^ b. -/
def Bnd (x : Option Nat) (b : Nat) : Prop := ∃ w s m e, x = some w ∧ w < 2 ^ 64 ∧ FloatKind.f64.decode w = .number s m e ∧ LeP m e b
theorem Bnd.mono {x : Option Nat} {b c : Nat} (h : Bnd x b) (hc : b ≤ c) : Bnd x c := by
  obtain ⟨w, s, m, e, h1, h2, h3, h4⟩ := h
  exact ⟨w, s, m, e, h1, h2, h3, h4.mono hc⟩
theorem Bnd.ok {x : Option Nat} {b : Nat} (h : Bnd x b) : fOk .f64 x := by
  obtain ⟨w, s, m, e, rfl, h2, h3, h4⟩ := h
  intro c hc
  cases hc
  exact ⟨h2, by rw [h3]; rfl⟩
/-- A number that is not too great, written. -/
theorem Bnd.of {s : Bool} {m : Nat} {e : Int} {b : Nat} (h : LeP m e b) (hb : b ≤ 1022) : Bnd (some (FloatKind.f64.encode (.number s m e))) b := by
  obtain ⟨m', e', h1, h2, _⟩ := write_le (s := s) h hb
  exact ⟨_, s, m', e', rfl, FloatKind.f64.format.write_lt _, h1, h2⟩
/-- Narrowing gives a number. -/
theorem Bnd.narrow {x : Option Nat} {b : Nat} (h : Bnd x b) (hb : b ≤ 126) : ∃ y, f2f .f64 x .f32 = some y ∧ fOk .f32 y := by
  obtain ⟨w, s, m, e, rfl, h2, h3, h4⟩ := h
  have hf := f32_fin (s := s) (h4.mono hb)
  refine ⟨some (FloatKind.f32.encode (.number s m e)), ?_, ?_⟩
  · show (floatToFloatBits .f64 w .f32).map some = _
    unfold floatToFloatBits
    rw [if_neg (by decide), h3]
    simp only []
    rw [hf]; rfl
  · intro c hc
    cases hc
    exact ⟨FloatKind.f32.format.write_lt _, (nrm_some (nrm_write .f32 (d := .number _ _ _) rfl)).2⟩
theorem LeP.prod {m n : Nat} {i j : Int} {a b : Nat} (h : LeP m i a) (k : LeP n j b) : LeP (m * n) (i + j) (a + b) := by
  have h1 := h (-i).toNat (by omega)
  have k1 := k (-j).toNat (by omega)
  refine lep_of (K := (-i).toNat + (-j).toNat) (by omega) ?_
  unfold V at *
  have e1 : (i + j + (((-i).toNat + (-j).toNat : Nat) : Int)).toNat = (i + ((-i).toNat : Int)).toNat + (j + ((-j).toNat : Int)).toNat := by omega
  rw [e1, Nat.pow_add, show m * n * (2 ^ (i + ((-i).toNat : Int)).toNat * 2 ^ (j + ((-j).toNat : Int)).toNat) = (m * 2 ^ (i + ((-i).toNat : Int)).toNat) * (n * 2 ^ (j + ((-j).toNat : Int)).toNat) by
    rw [Nat.mul_mul_mul_comm]]
  refine Nat.le_trans (Nat.mul_le_mul h1 k1) ?_
  rw [← Nat.pow_add]
  exact Nat.pow_le_pow_right (by decide) (by omega)
theorem Bnd.mul {x y : Option Nat} {a b : Nat} (h : Bnd x a) (k : Bnd y b) (hab : a + b ≤ 1022) : Bnd (fop .mul .f64 x y) (a + b) := by
  obtain ⟨w, s, m, i, rfl, h2, h3, h4⟩ := h
  obtain ⟨v, t, n, j, rfl, k2, k3, k4⟩ := k
  have : fop .mul .f64 (some w) (some v) = some (FloatKind.f64.encode (.number (s ^^ t) (m * n) (i + j))) := by
    show ((Format.read _ w).product (Format.read _ v)).map _ = _
    rw [show Format.read FloatKind.f64.format w = .number s m i from h3, show Format.read FloatKind.f64.format v = .number t n j from k3]
    rfl
  rw [this]
  exact Bnd.of (h4.prod k4) hab
theorem signed_abs (s : Bool) (m k : Nat) : (signed s m k).natAbs = m * 2 ^ k := by
  unfold signed
  cases s
  · exact (Int.natAbs_natCast _).trans (Nat.shiftLeft_eq _ _)
  · exact (Int.natAbs_neg _).trans ((Int.natAbs_natCast _).trans (Nat.shiftLeft_eq _ _))
theorem LeP.summ {s t : Bool} {m n : Nat} {i j : Int} {a b c : Nat} (h : LeP m i a) (k : LeP n j b) (ha : a < c) (hb : b < c) : LeP (signed s m (i - min i j).toNat + signed t n (j - min i j).toNat).natAbs (min i j) c := by
  obtain ⟨K, hK⟩ : ∃ K : Nat, K = (-i).toNat + (-j).toNat := ⟨_, rfl⟩
  have h1 := h K (by omega)
  have k1 := k K (by omega)
  refine lep_of (K := K) (by omega) ?_
  unfold V at *
  have e := Int.natAbs_add_le (signed s m (i - min i j).toNat) (signed t n (j - min i j).toNat)
  rw [signed_abs, signed_abs] at e
  refine Nat.le_trans (Nat.mul_le_mul_right _ e) ?_
  rw [Nat.add_mul, Nat.mul_assoc, Nat.mul_assoc, ← Nat.pow_add, ← Nat.pow_add, show (i - min i j).toNat + (min i j + (K : Int)).toNat = (i + K).toNat by omega, show (j - min i j).toNat + (min i j + (K : Int)).toNat = (j + K).toNat by omega]
  have p1 : 2 ^ (a + K) ≤ 2 ^ (c - 1 + K) := Nat.pow_le_pow_right (by decide) (by omega)
  have p2 : 2 ^ (b + K) ≤ 2 ^ (c - 1 + K) := Nat.pow_le_pow_right (by decide) (by omega)
  have p3 : 2 ^ (c + K) = 2 ^ (c - 1 + K) * 2 := by rw [← Nat.pow_succ]; congr 1; omega
  omega
theorem Bnd.sub {x y : Option Nat} {a b c : Nat} (h : Bnd x a) (k : Bnd y b) (ha : a < c) (hb : b < c) (hc : c ≤ 1022) : Bnd (fop .sub .f64 x y) c := by
  obtain ⟨w, s, m, i, rfl, h2, h3, h4⟩ := h
  obtain ⟨v, t, n, j, rfl, k2, k3, k4⟩ := k
  have : fop .sub .f64 (some w) (some v) = some (FloatKind.f64.encode (.number (if signed s m (i - min i j).toNat + signed (!t) n (j - min i j).toNat = 0 then s && !t else signed s m (i - min i j).toNat + signed (!t) n (j - min i j).toNat < 0) (signed s m (i - min i j).toNat + signed (!t) n (j - min i j).toNat).natAbs (min i j))) := by
    show ((Format.read _ w).sum (Format.read _ v).opposite).map _ = _
    rw [show Format.read FloatKind.f64.format w = .number s m i from h3, show Format.read FloatKind.f64.format v = .number t n j from k3]
    rfl
  rw [this]
  exact Bnd.of (h4.summ k4 ha hb) hc
theorem Bnd.add {x y : Option Nat} {a b c : Nat} (h : Bnd x a) (k : Bnd y b) (ha : a < c) (hb : b < c) (hc : c ≤ 1022) : Bnd (fop .add .f64 x y) c := by
  obtain ⟨w, s, m, i, rfl, h2, h3, h4⟩ := h
  obtain ⟨v, t, n, j, rfl, k2, k3, k4⟩ := k
  have : fop .add .f64 (some w) (some v) = some (FloatKind.f64.encode (.number (if signed s m (i - min i j).toNat + signed t n (j - min i j).toNat = 0 then s && t else signed s m (i - min i j).toNat + signed t n (j - min i j).toNat < 0) (signed s m (i - min i j).toNat + signed t n (j - min i j).toNat).natAbs (min i j))) := by
    show ((Format.read _ w).sum (Format.read _ v)).map _ = _
    rw [show Format.read FloatKind.f64.format w = .number s m i from h3, show Format.read FloatKind.f64.format v = .number t n j from k3]
    rfl
  rw [this]
  exact Bnd.of (h4.summ k4 ha hb) hc
/-- Dividing by a number that is at least 1. -/
theorem Bnd.quo {x : Option Nat} {a v n : Nat} {t : Bool} {j : Int} (h : Bnd x a) (k3 : FloatKind.f64.decode v = .number t n j) (hn : n ≠ 0) (h1 : ∀ K : Nat, 0 ≤ j + K → 2 ^ K ≤ n * 2 ^ (j + K).toNat) (ha : a + 1 ≤ 1022) : Bnd (fop .quo .f64 x (some v)) (a + 1) := by
  obtain ⟨w, s, m, i, rfl, h2, h3, h4⟩ := h
  obtain ⟨more, hmore⟩ : ∃ more, more = 54 + n.log2 - m.log2 := ⟨_, rfl⟩
  have : fop .quo .f64 (some w) (some v) = some (FloatKind.f64.encode (.number (s ^^ t) (2 * (m <<< more / n) + (m <<< more % n != 0).toNat) (i - j - more - 1))) := by
    show ((Format.read _ w).quotient _ (Format.read _ v)).map _ = _
    rw [show Format.read FloatKind.f64.format w = .number s m i from h3, show Format.read FloatKind.f64.format v = .number t n j from k3]
    show (if n = 0 then _ else _ : Option Datum).map _ = _
    rw [if_neg hn, hmore]
    rfl
  rw [this]
  refine Bnd.of ?_ ha
  obtain ⟨K1, hK1⟩ : ∃ K1 : Nat, K1 = (-(i - j - more - 1)).toNat := ⟨_, rfl⟩
  obtain ⟨K2, hK2⟩ : ∃ K2 : Nat, K2 = (-j).toNat + (-(i - more - 1)).toNat + (-i).toNat := ⟨_, rfl⟩
  refine lep_of (K := K1) (by omega) ?_
  unfold V
  have hv := h4 (K1 + K2) (by omega)
  unfold V at hv
  have hd := h1 K2 (by omega)
  have hdm := Nat.div_mul_le_self (m <<< more) n
  rw [Nat.shiftLeft_eq] at hdm ⊢
  by_cases h0 : m = 0
  · subst h0
    simp
  · -- at least one whole
    have hq : 1 ≤ m * 2 ^ more / n := by
      rw [Nat.le_div_iff_mul_le (Nat.pos_of_ne_zero hn), Nat.one_mul]
      have e1 : n < 2 ^ (n.log2 + 1) := Nat.lt_log2_self
      have e2 : 2 ^ m.log2 ≤ m := Nat.log2_self_le h0
      have e3 : 2 ^ (n.log2 + 1) ≤ 2 ^ (m.log2 + more) := Nat.pow_le_pow_right (by decide) (by omega)
      have e4 : 2 ^ m.log2 * 2 ^ more ≤ m * 2 ^ more := Nat.mul_le_mul_right _ e2
      rw [← Nat.pow_add] at e4
      omega
    have hb : (m * 2 ^ more % n != 0).toNat ≤ 1 := by cases (m * 2 ^ more % n != 0) <;> decide
    obtain ⟨q, hqe⟩ : ∃ q, q = m * 2 ^ more / n := ⟨_, rfl⟩
    obtain ⟨r, hre⟩ : ∃ r, r = 2 * q + (m * 2 ^ more % n != 0).toNat := ⟨_, rfl⟩
    rw [← hqe] at hq hdm
    rw [← hqe, ← hre]
    have hr4 : r ≤ 4 * q := by omega
    -- r * n * 2 ^ .. against m
    have key : r * 2 ^ (i - j - more - 1 + (K1 : Int)).toNat * (n * 2 ^ (j + (K2 : Int)).toNat) ≤ 2 ^ (a + 1 + K1) * 2 ^ K2 := by
      have e1 : r * 2 ^ (i - j - more - 1 + (K1 : Int)).toNat * (n * 2 ^ (j + (K2 : Int)).toNat) = (r * n) * 2 ^ (i - more - 1 + (K1 : Int) + (K2 : Int)).toNat := by
        rw [Nat.mul_mul_mul_comm, ← Nat.pow_add]
        congr 2; omega
      rw [e1]
      have e2 : r * n ≤ 4 * (m * 2 ^ more) := by
        refine Nat.le_trans (Nat.mul_le_mul_right n hr4) ?_
        rw [Nat.mul_assoc]
        exact Nat.mul_le_mul_left 4 hdm
      refine Nat.le_trans (Nat.mul_le_mul_right _ e2) ?_
      have e3 : 4 * (m * 2 ^ more) * 2 ^ (i - more - 1 + (K1 : Int) + (K2 : Int)).toNat = 2 * (m * 2 ^ (i + ((K1 + K2 : Nat) : Int)).toNat) := by
        have e4 : 2 ^ more * 2 ^ (i - more - 1 + (K1 : Int) + (K2 : Int)).toNat * 2 = 2 ^ (i + ((K1 + K2 : Nat) : Int)).toNat := by
          rw [← Nat.pow_add, ← Nat.pow_succ]; congr 1; omega
        rw [← e4]
        generalize 2 ^ more = A
        generalize 2 ^ (i - more - 1 + (K1 : Int) + (K2 : Int)).toNat = B
        have x1 : 4 * (m * A) * B = 4 * (m * (A * B)) := by rw [Nat.mul_assoc 4, Nat.mul_assoc m]
        have x2 : m * (A * B * 2) = m * (A * B) * 2 := (Nat.mul_assoc _ _ _).symm
        rw [x1, x2]
        omega
      rw [e3, ← Nat.pow_add]
      have e5 : 2 ^ (a + 1 + K1 + K2) = 2 * 2 ^ (a + (K1 + K2)) := by rw [← Nat.pow_succ']; congr 1; omega
      rw [e5]
      exact Nat.mul_le_mul_left 2 hv
    have : r * 2 ^ (i - j - more - 1 + (K1 : Int)).toNat * 2 ^ K2 ≤ 2 ^ (a + 1 + K1) * 2 ^ K2 := Nat.le_trans (Nat.mul_le_mul_left _ hd) key
    exact Nat.le_of_mul_le_mul_right this (Nat.two_pow_pos K2)
end Go.Ab
end
/- Floats: square roots are not too great. -/
section
namespace Go.Ab
open Ieee
theorem rootFrom_sq (n : Nat) : ∀ (todo r : Nat), r * r ≤ n → Datum.rootFrom n todo r * Datum.rootFrom n todo r ≤ n
  | 0, r, h => h
  | todo + 1, r, h => by
    unfold Datum.rootFrom
    simp only []
    split
    · rename_i h1; exact rootFrom_sq n todo _ h1
    · exact rootFrom_sq n todo r h
theorem rootFrom_ge (n : Nat) : ∀ (todo r : Nat), r ≤ Datum.rootFrom n todo r
  | 0, r => Nat.le_refl _
  | todo + 1, r => by
    unfold Datum.rootFrom
    simp only []
    split
    · exact Nat.le_trans (Nat.le_add_right _ _) (rootFrom_ge n todo _)
    · exact rootFrom_ge n todo r
theorem rootFrom_pos (n : Nat) (h : 1 ≤ n) : ∀ (todo : Nat), 1 ≤ todo → 1 ≤ Datum.rootFrom n todo 0
  | 0, h1 => by omega
  | todo + 1, _ => by
    unfold Datum.rootFrom
    simp only [Nat.zero_add]
    split
    · refine Nat.le_trans ?_ (rootFrom_ge n todo _)
      rw [Nat.one_shiftLeft]; exact Nat.one_le_two_pow
    · rename_i h2
      cases todo with
      | zero => exact absurd h (by simpa using h2)
      | succ k => exact rootFrom_pos n h (k + 1) (by omega)
theorem sqrt_bnd {w m : Nat} {s : Bool} {i : Int} {b c : Nat} (h3 : FloatKind.f64.decode w = .number s m i) (h4 : LeP m i b) (hc : b + 4 ≤ 2 * c) (hc2 : c ≤ 1022) : FloatKind.f64.format.sqrt w = none ∨ Bnd (FloatKind.f64.format.sqrt w) c := by
  have e : FloatKind.f64.format.sqrt w = ((Datum.number s m i).root (FloatKind.f64.format.fractionBits + 2)).map FloatKind.f64.format.write := by
    show ((Format.read _ w).root _).map _ = _
    rw [show Format.read FloatKind.f64.format w = .number s m i from h3]
  rw [e]
  unfold Datum.root
  simp only []
  by_cases h0 : m = 0
  · rw [if_pos h0]
    subst h0
    exact .inr (Bnd.of lep_zero hc2)
  · rw [if_neg h0]
    cases s with
    | true => left; rfl
    | false =>
      right
      rw [if_neg (by decide)]
      simp only [Option.map_some]
      refine Bnd.of ?_ hc2
      obtain ⟨m0, hm0⟩ : ∃ m0, m0 = 2 * (FloatKind.f64.format.fractionBits + 2) - m.log2 := ⟨_, rfl⟩
      rw [← hm0]
      obtain ⟨more, hmore⟩ : ∃ more, more = m0 + ((i - (m0 : Int)) % 2).toNat := ⟨_, rfl⟩
      rw [← hmore]
      have hev : (i - (more : Int)) % 2 = 0 := by omega
      obtain ⟨n, hn⟩ : ∃ n, n = m <<< more := ⟨_, rfl⟩
      rw [← hn]
      have hn1 : 1 ≤ n := by
        rw [hn, Nat.shiftLeft_eq]
        exact Nat.mul_pos (Nat.pos_of_ne_zero h0) (Nat.two_pow_pos _)
      obtain ⟨q, hq⟩ : ∃ q, q = Datum.rootFrom n (n.log2 / 2 + 1) 0 := ⟨_, rfl⟩
      rw [← hq]
      have hq2 : q * q ≤ n := by rw [hq]; exact rootFrom_sq n _ 0 (Nat.zero_le _)
      have hq1 : 1 ≤ q := by rw [hq]; exact rootFrom_pos n hn1 _ (by omega)
      obtain ⟨r, hr⟩ : ∃ r, r = 2 * q + (q * q != n).toNat := ⟨_, rfl⟩
      rw [← hr]
      have hb : (q * q != n).toNat ≤ 1 := by cases (q * q != n) <;> decide
      have hr3 : r ≤ 3 * q := by omega
      obtain ⟨E, hE⟩ : ∃ E : Int, E = (i - (more : Int)) / 2 - 1 := ⟨_, rfl⟩
      rw [← hE]
      have h2E : 2 * E = i - more - 2 := by omega
      obtain ⟨K, hK⟩ : ∃ K : Nat, K = (-E).toNat + (-i).toNat := ⟨_, rfl⟩
      refine lep_of (K := K) (by omega) ?_
      unfold V
      have hv := h4 (2 * K) (by omega)
      unfold V at hv
      have hsq : (r * 2 ^ (E + (K : Int)).toNat) * (r * 2 ^ (E + (K : Int)).toNat) ≤ 2 ^ (c + K) * 2 ^ (c + K) := by
        rw [Nat.mul_mul_mul_comm, ← Nat.pow_add, ← Nat.pow_add]
        have e1 : r * r ≤ 9 * n := by
          have := Nat.mul_le_mul hr3 hr3
          rw [Nat.mul_mul_mul_comm] at this
          omega
        refine Nat.le_trans (Nat.mul_le_mul_right _ e1) ?_
        rw [hn, Nat.shiftLeft_eq]
        have e2 : 2 ^ more * 2 ^ ((E + (K : Int)).toNat + (E + (K : Int)).toNat) * 4 = 2 ^ (i + ((2 * K : Nat) : Int)).toNat := by
          rw [← Nat.pow_add, show (4 : Nat) = 2 ^ 2 from rfl, ← Nat.pow_add]; congr 1; omega
        have e3 : 9 * (m * 2 ^ more) * 2 ^ ((E + (K : Int)).toNat + (E + (K : Int)).toNat) ≤ 16 * (m * 2 ^ (i + ((2 * K : Nat) : Int)).toNat) := by
          rw [← e2]
          generalize 2 ^ more = A
          generalize 2 ^ ((E + (K : Int)).toNat + (E + (K : Int)).toNat) = B
          have x1 : 9 * (m * A) * B = 9 * (m * (A * B)) := by rw [Nat.mul_assoc 9, Nat.mul_assoc m]
          have x2 : m * (A * B * 4) = m * (A * B) * 4 := (Nat.mul_assoc _ _ _).symm
          rw [x1, x2]
          omega
        refine Nat.le_trans e3 ?_
        refine Nat.le_trans (Nat.mul_le_mul_left 16 hv) ?_
        rw [show (16 : Nat) = 2 ^ 4 from rfl, ← Nat.pow_add]
        exact Nat.pow_le_pow_right (by decide) (by omega)
      exact Nat.mul_self_le_mul_self_iff.1 hsq
/-- What is narrowed to no infinity is not too great. -/
theorem f32_bnd {s : Bool} {m : Nat} {e : Int} (h : (FloatKind.f32.decode (FloatKind.f32.encode (.number s m e))).isInfinity = false) : LeP m e 128 := by
  by_cases h0 : m = 0
  · subst h0; exact lep_zero
  have hb : Format.binade single = 8388608 := rfl
  have hi : Format.infRung single = 2139095040 := rfl
  have hl : Format.leastPlace single = -149 := rfl
  have hf : single.fractionBits = 23 := rfl
  have hhi : m < 2 ^ (m.log2 + 1) := Nat.lt_log2_self
  have hlo : 2 ^ m.log2 ≤ m := Nat.log2_self_le h0
  have hlog : (m.log2 : Int) + e ≤ 127 := by
    rcases Int.lt_or_le 127 ((m.log2 : Int) + e) with hgt | hle
    · exfalso
      obtain ⟨L, hL⟩ : ∃ L : Int, L = max (e + m.log2 - 23) (-149) := ⟨_, rfl⟩
      obtain ⟨kept, hk⟩ : ∃ kept, kept = Toward.even.cut s (m <<< (e - L).toNat) (L - e).toNat := ⟨_, rfl⟩
      have hkge : 2 ^ 23 ≤ kept := by
        rw [hk]
        by_cases hc : L ≤ e
        · have e2 : (L - e).toNat = 0 := by omega
          rw [e2]
          refine cut_ge (Nat.zero_le _) ?_
          rw [Nat.pow_zero, Nat.mul_one, Nat.shiftLeft_eq]
          have : 2 ^ 23 = 2 ^ m.log2 * 2 ^ (e - L).toNat := by rw [← Nat.pow_add]; congr 1; omega
          rw [this]
          exact Nat.mul_le_mul_right _ hlo
        · have e2 : (e - L).toNat = 0 := by omega
          rw [e2, Nat.shiftLeft_eq, Nat.pow_zero, Nat.mul_one]
          refine cut_ge (by omega) ?_
          rw [← Nat.pow_add]
          refine Nat.le_trans (Nat.pow_le_pow_right (by decide) ?_) hlo
          omega
      simp only [Nat.reducePow] at hkge
      have hw : FloatKind.f32.encode (.number s m e) = single.word s 2139095040 := by
        show Format.nearest single s m e = _
        unfold Format.nearest
        rw [if_neg h0]
        simp only [hf, hl, hb, hi]
        rw [show max (e + (m.log2 : Int) - ((23 : Nat) : Int)) (-149) = L from hL.symm, ← hk, show L - -149 = L + 149 by omega]
        rw [Nat.min_eq_right (by omega)]
      rw [hw] at h
      revert h
      cases s <;> decide +kernel
    · exact hle
  obtain ⟨K, hK⟩ : ∃ K : Nat, K = (-e).toNat := ⟨_, rfl⟩
  refine lep_of (K := K) (by omega) ?_
  unfold V
  refine Nat.le_trans (Nat.mul_le_mul_right _ (Nat.le_of_lt hhi)) ?_
  rw [← Nat.pow_add]
  exact Nat.pow_le_pow_right (by decide) (by omega)
theorem sqrt_n {x : Option Nat} (h : HasKd .f64n (.flt .f64 x)) : HasKd .f64n (.flt .f64 (fSqrt x)) := by
  obtain ⟨x', e, ho, hn⟩ := h
  cases e
  have none_ok : HasKd .f64n (.flt .f64 none) := ⟨none, rfl, fun c hc => (by cases hc), rfl⟩
  cases x with
  | none => exact none_ok
  | some w =>
    obtain ⟨h1, h2⟩ := ho w rfl
    show HasKd .f64n (.flt .f64 (FloatKind.f64.format.sqrt w))
    generalize hd : FloatKind.f64.decode w = d at h2
    cases d with
    | nan s t => cases h2
    | infinity s =>
      have e : FloatKind.f64.format.sqrt w = ((Datum.infinity s).root (FloatKind.f64.format.fractionBits + 2)).map FloatKind.f64.format.write := by
        show ((Format.read _ w).root _).map _ = _
        rw [show Format.read FloatKind.f64.format w = .infinity s from hd]
      rw [e]
      cases s with
      | true => exact none_ok
      | false => exact ⟨_, rfl, (fun c hc => by cases hc; exact ⟨by decide +kernel, by decide +kernel⟩), by decide +kernel⟩
    | number s m i =>
      have hl : LeP m i 128 := by
        refine f32_bnd (s := s) ?_
        have hn : ((floatToFloatBits .f64 w .f32).map some).isSome = true := hn
        unfold floatToFloatBits at hn
        rw [if_neg (by decide), hd] at hn
        simp only [] at hn
        cases hi : (FloatKind.f32.decode (FloatKind.f32.encode (.number s m i))).isInfinity with
        | false => rfl
        | true => rw [hi] at hn; cases hn
      rcases sqrt_bnd (c := 66) hd hl (by omega) (by omega) with e | hB
      · rw [e]; exact none_ok
      · obtain ⟨y, hy, _⟩ := hB.narrow (by omega)
        exact ⟨_, rfl, hB.ok, by rw [hy]; rfl⟩
end Go.Ab
end
