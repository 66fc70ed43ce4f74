/- Floats: bounds of results; narrowing. -/
import Derived.Test.YtacligocjfhckaaSxA
import Derived.Test.YtacligocjfhckaaAbD
import Derived.Test.YtacligocjfhckaaSxD
import Derived.Test.YtacligocjfhckaaSxC
import Derived.Lib.Overlaps
set_option linter.unusedVariables false
set_option linter.unusedSimpArgs false
section
namespace Go.Ab
open Ieee
/-- What is not too great is written in single precision as a number. -/
theorem f32_fin {s : Bool} {m : Nat} {e : Int} (h : LeP m e 126) : (FloatKind.f32.decode (FloatKind.f32.encode (.number s m e))).isInfinity = false := by
  have hb : Format.binade single = 8388608 := rfl
  have hi : Format.infRung single = 2139095040 := rfl
  have hl : Format.leastPlace single = -149 := rfl
  have hf : single.fractionBits = 23 := rfl
  show (Format.read single (Format.nearest single s m e)).isInfinity = false
  by_cases h0 : m = 0
  · subst h0
    show (Format.read single (single.word s 0)).isInfinity = false
    cases s <;> decide +kernel
  · have hlog := h.log h0
    have hhi : m < 2 ^ (m.log2 + 1) := Nat.lt_log2_self
    obtain ⟨L, hL⟩ : ∃ L : Int, L = max (e + m.log2 - 23) (-149) := ⟨_, rfl⟩
    obtain ⟨kept, hk⟩ : ∃ kept, kept = Toward.even.cut s (m <<< (e - L).toNat) (L - e).toNat := ⟨_, rfl⟩
    have hkle : kept ≤ 2 ^ 24 := by
      rw [hk]
      refine cut_le ?_
      rw [Nat.shiftLeft_eq]
      have h1 : m * 2 ^ (e - L).toNat ≤ 2 ^ (m.log2 + 1 + (e - L).toNat) := by
        rw [Nat.pow_add]; exact Nat.mul_le_mul_right _ (Nat.le_of_lt hhi)
      refine Nat.le_trans h1 ?_
      rw [← Nat.pow_add]
      refine Nat.pow_le_pow_right (by decide) ?_
      omega
    simp only [Nat.reducePow] at hkle
    have hr : (L + 149).toNat * 8388608 + kept < 2139095040 := by omega
    have hw : Format.nearest single s m e = single.word s ((L + 149).toNat * 8388608 + kept) := by
      unfold Format.nearest
      rw [if_neg h0]
      simp only [hf, hl, hb, hi]
      rw [show max (e + (m.log2 : Int) - ((23 : Nat) : Int)) (-149) = L from hL.symm, ← hk, show L - -149 = L + 149 by omega]
      rw [Nat.min_eq_left (Nat.le_of_lt hr)]
    rw [hw, read_num single s (by rw [hi]; exact hr)]
    split <;> rfl
/-- A double that is a number of at most 2 ^ b. -/
def Bnd (x : Option Nat) (b : Nat) : Prop := ∃ w s m e, x = some w ∧ w < 2 ^ 64 ∧ FloatKind.f64.decode w = .number s m e ∧ LeP m e b
theorem Bnd.mono {x : Option Nat} {b c : Nat} (h : Bnd x b) (hc : b ≤ c) : Bnd x c := by
  obtain ⟨w, s, m, e, h1, h2, h3, h4⟩ := h
  exact ⟨w, s, m, e, h1, h2, h3, h4.mono hc⟩
theorem Bnd.ok {x : Option Nat} {b : Nat} (h : Bnd x b) : fOk .f64 x := by
  obtain ⟨w, s, m, e, rfl, h2, h3, h4⟩ := h
  intro c hc
  cases hc
  exact ⟨h2, by rw [h3]; rfl⟩
/-- A number that is not too great, written. -/
theorem Bnd.of {s : Bool} {m : Nat} {e : Int} {b : Nat} (h : LeP m e b) (hb : b ≤ 1022) : Bnd (some (FloatKind.f64.encode (.number s m e))) b := by
  obtain ⟨m', e', h1, h2, _⟩ := write_le (s := s) h hb
  exact ⟨_, s, m', e', rfl, FloatKind.f64.format.write_lt _, h1, h2⟩
/-- Narrowing gives a number. -/
theorem Bnd.narrow {x : Option Nat} {b : Nat} (h : Bnd x b) (hb : b ≤ 126) : ∃ y, f2f .f64 x .f32 = some y ∧ fOk .f32 y := by
  obtain ⟨w, s, m, e, rfl, h2, h3, h4⟩ := h
  have hf := f32_fin (s := s) (h4.mono hb)
  refine ⟨some (FloatKind.f32.encode (.number s m e)), ?_, ?_⟩
  · show (floatToFloatBits .f64 w .f32).map some = _
    unfold floatToFloatBits
    rw [if_neg (by decide), h3]
    simp only []
    rw [hf]; rfl
  · intro c hc
    cases hc
    exact ⟨FloatKind.f32.format.write_lt _, (nrm_some (nrm_write .f32 (d := .number _ _ _) rfl)).2⟩
theorem LeP.prod {m n : Nat} {i j : Int} {a b : Nat} (h : LeP m i a) (k : LeP n j b) : LeP (m * n) (i + j) (a + b) := by
  have h1 := h (-i).toNat (by omega)
  have k1 := k (-j).toNat (by omega)
  refine lep_of (K := (-i).toNat + (-j).toNat) (by omega) ?_
  unfold V at *
  have e1 : (i + j + (((-i).toNat + (-j).toNat : Nat) : Int)).toNat = (i + ((-i).toNat : Int)).toNat + (j + ((-j).toNat : Int)).toNat := by omega
  rw [e1, Nat.pow_add, show m * n * (2 ^ (i + ((-i).toNat : Int)).toNat * 2 ^ (j + ((-j).toNat : Int)).toNat) = (m * 2 ^ (i + ((-i).toNat : Int)).toNat) * (n * 2 ^ (j + ((-j).toNat : Int)).toNat) by
    rw [Nat.mul_mul_mul_comm]]
  refine Nat.le_trans (Nat.mul_le_mul h1 k1) ?_
  rw [← Nat.pow_add]
  exact Nat.pow_le_pow_right (by decide) (by omega)
theorem Bnd.mul {x y : Option Nat} {a b : Nat} (h : Bnd x a) (k : Bnd y b) (hab : a + b ≤ 1022) : Bnd (fop .mul .f64 x y) (a + b) := by
  obtain ⟨w, s, m, i, rfl, h2, h3, h4⟩ := h
  obtain ⟨v, t, n, j, rfl, k2, k3, k4⟩ := k
  have : fop .mul .f64 (some w) (some v) = some (FloatKind.f64.encode (.number (s ^^ t) (m * n) (i + j))) := by
    show ((Format.read _ w).product (Format.read _ v)).map _ = _
    rw [show Format.read FloatKind.f64.format w = .number s m i from h3, show Format.read FloatKind.f64.format v = .number t n j from k3]
    rfl
  rw [this]
  exact Bnd.of (h4.prod k4) hab
theorem signed_abs (s : Bool) (m k : Nat) : (signed s m k).natAbs = m * 2 ^ k := by
  unfold signed
  cases s
  · exact (Int.natAbs_natCast _).trans (Nat.shiftLeft_eq _ _)
  · exact (Int.natAbs_neg _).trans ((Int.natAbs_natCast _).trans (Nat.shiftLeft_eq _ _))
theorem LeP.summ {s t : Bool} {m n : Nat} {i j : Int} {a b c : Nat} (h : LeP m i a) (k : LeP n j b) (ha : a < c) (hb : b < c) : LeP (signed s m (i - min i j).toNat + signed t n (j - min i j).toNat).natAbs (min i j) c := by
  obtain ⟨K, hK⟩ : ∃ K : Nat, K = (-i).toNat + (-j).toNat := ⟨_, rfl⟩
  have h1 := h K (by omega)
  have k1 := k K (by omega)
  refine lep_of (K := K) (by omega) ?_
  unfold V at *
  have e := Int.natAbs_add_le (signed s m (i - min i j).toNat) (signed t n (j - min i j).toNat)
  rw [signed_abs, signed_abs] at e
  refine Nat.le_trans (Nat.mul_le_mul_right _ e) ?_
  rw [Nat.add_mul, Nat.mul_assoc, Nat.mul_assoc, ← Nat.pow_add, ← Nat.pow_add, show (i - min i j).toNat + (min i j + (K : Int)).toNat = (i + K).toNat by omega, show (j - min i j).toNat + (min i j + (K : Int)).toNat = (j + K).toNat by omega]
  have p1 : 2 ^ (a + K) ≤ 2 ^ (c - 1 + K) := Nat.pow_le_pow_right (by decide) (by omega)
  have p2 : 2 ^ (b + K) ≤ 2 ^ (c - 1 + K) := Nat.pow_le_pow_right (by decide) (by omega)
  have p3 : 2 ^ (c + K) = 2 ^ (c - 1 + K) * 2 := by rw [← Nat.pow_succ]; congr 1; omega
  omega
theorem Bnd.sub {x y : Option Nat} {a b c : Nat} (h : Bnd x a) (k : Bnd y b) (ha : a < c) (hb : b < c) (hc : c ≤ 1022) : Bnd (fop .sub .f64 x y) c := by
  obtain ⟨w, s, m, i, rfl, h2, h3, h4⟩ := h
  obtain ⟨v, t, n, j, rfl, k2, k3, k4⟩ := k
  have : fop .sub .f64 (some w) (some v) = some (FloatKind.f64.encode (.number (if signed s m (i - min i j).toNat + signed (!t) n (j - min i j).toNat = 0 then s && !t else signed s m (i - min i j).toNat + signed (!t) n (j - min i j).toNat < 0) (signed s m (i - min i j).toNat + signed (!t) n (j - min i j).toNat).natAbs (min i j))) := by
    show ((Format.read _ w).sum (Format.read _ v).opposite).map _ = _
    rw [show Format.read FloatKind.f64.format w = .number s m i from h3, show Format.read FloatKind.f64.format v = .number t n j from k3]
    rfl
  rw [this]
  exact Bnd.of (h4.summ k4 ha hb) hc
theorem Bnd.add {x y : Option Nat} {a b c : Nat} (h : Bnd x a) (k : Bnd y b) (ha : a < c) (hb : b < c) (hc : c ≤ 1022) : Bnd (fop .add .f64 x y) c := by
  obtain ⟨w, s, m, i, rfl, h2, h3, h4⟩ := h
  obtain ⟨v, t, n, j, rfl, k2, k3, k4⟩ := k
  have : fop .add .f64 (some w) (some v) = some (FloatKind.f64.encode (.number (if signed s m (i - min i j).toNat + signed t n (j - min i j).toNat = 0 then s && t else signed s m (i - min i j).toNat + signed t n (j - min i j).toNat < 0) (signed s m (i - min i j).toNat + signed t n (j - min i j).toNat).natAbs (min i j))) := by
    show ((Format.read _ w).sum (Format.read _ v)).map _ = _
    rw [show Format.read FloatKind.f64.format w = .number s m i from h3, show Format.read FloatKind.f64.format v = .number t n j from k3]
    rfl
  rw [this]
  exact Bnd.of (h4.summ k4 ha hb) hc
/-- Dividing by a number that is at least 1. -/
theorem Bnd.quo {x : Option Nat} {a v n : Nat} {t : Bool} {j : Int} (h : Bnd x a) (k3 : FloatKind.f64.decode v = .number t n j) (hn : n ≠ 0) (h1 : ∀ K : Nat, 0 ≤ j + K → 2 ^ K ≤ n * 2 ^ (j + K).toNat) (ha : a + 1 ≤ 1022) : Bnd (fop .quo .f64 x (some v)) (a + 1) := by
  obtain ⟨w, s, m, i, rfl, h2, h3, h4⟩ := h
  obtain ⟨more, hmore⟩ : ∃ more, more = 54 + n.log2 - m.log2 := ⟨_, rfl⟩
  have : fop .quo .f64 (some w) (some v) = some (FloatKind.f64.encode (.number (s ^^ t) (2 * (m <<< more / n) + (m <<< more % n != 0).toNat) (i - j - more - 1))) := by
    show ((Format.read _ w).quotient _ (Format.read _ v)).map _ = _
    rw [show Format.read FloatKind.f64.format w = .number s m i from h3, show Format.read FloatKind.f64.format v = .number t n j from k3]
    show (if n = 0 then _ else _ : Option Datum).map _ = _
    rw [if_neg hn, hmore]
    rfl
  rw [this]
  refine Bnd.of ?_ ha
  obtain ⟨K1, hK1⟩ : ∃ K1 : Nat, K1 = (-(i - j - more - 1)).toNat := ⟨_, rfl⟩
  obtain ⟨K2, hK2⟩ : ∃ K2 : Nat, K2 = (-j).toNat + (-(i - more - 1)).toNat + (-i).toNat := ⟨_, rfl⟩
  refine lep_of (K := K1) (by omega) ?_
  unfold V
  have hv := h4 (K1 + K2) (by omega)
  unfold V at hv
  have hd := h1 K2 (by omega)
  have hdm := Nat.div_mul_le_self (m <<< more) n
  rw [Nat.shiftLeft_eq] at hdm ⊢
  by_cases h0 : m = 0
  · subst h0
    simp
  · -- at least one whole
    have hq : 1 ≤ m * 2 ^ more / n := by
      rw [Nat.le_div_iff_mul_le (Nat.pos_of_ne_zero hn), Nat.one_mul]
      have e1 : n < 2 ^ (n.log2 + 1) := Nat.lt_log2_self
      have e2 : 2 ^ m.log2 ≤ m := Nat.log2_self_le h0
      have e3 : 2 ^ (n.log2 + 1) ≤ 2 ^ (m.log2 + more) := Nat.pow_le_pow_right (by decide) (by omega)
      have e4 : 2 ^ m.log2 * 2 ^ more ≤ m * 2 ^ more := Nat.mul_le_mul_right _ e2
      rw [← Nat.pow_add] at e4
      omega
    have hb : (m * 2 ^ more % n != 0).toNat ≤ 1 := by cases (m * 2 ^ more % n != 0) <;> decide
    obtain ⟨q, hqe⟩ : ∃ q, q = m * 2 ^ more / n := ⟨_, rfl⟩
    obtain ⟨r, hre⟩ : ∃ r, r = 2 * q + (m * 2 ^ more % n != 0).toNat := ⟨_, rfl⟩
    rw [← hqe] at hq hdm
    rw [← hqe, ← hre]
    have hr4 : r ≤ 4 * q := by omega
    -- r * n * 2 ^ .. against m
    have key : r * 2 ^ (i - j - more - 1 + (K1 : Int)).toNat * (n * 2 ^ (j + (K2 : Int)).toNat) ≤ 2 ^ (a + 1 + K1) * 2 ^ K2 := by
      have e1 : r * 2 ^ (i - j - more - 1 + (K1 : Int)).toNat * (n * 2 ^ (j + (K2 : Int)).toNat) = (r * n) * 2 ^ (i - more - 1 + (K1 : Int) + (K2 : Int)).toNat := by
        rw [Nat.mul_mul_mul_comm, ← Nat.pow_add]
        congr 2; omega
      rw [e1]
      have e2 : r * n ≤ 4 * (m * 2 ^ more) := by
        refine Nat.le_trans (Nat.mul_le_mul_right n hr4) ?_
        rw [Nat.mul_assoc]
        exact Nat.mul_le_mul_left 4 hdm
      refine Nat.le_trans (Nat.mul_le_mul_right _ e2) ?_
      have e3 : 4 * (m * 2 ^ more) * 2 ^ (i - more - 1 + (K1 : Int) + (K2 : Int)).toNat = 2 * (m * 2 ^ (i + ((K1 + K2 : Nat) : Int)).toNat) := by
        have e4 : 2 ^ more * 2 ^ (i - more - 1 + (K1 : Int) + (K2 : Int)).toNat * 2 = 2 ^ (i + ((K1 + K2 : Nat) : Int)).toNat := by
          rw [← Nat.pow_add, ← Nat.pow_succ]; congr 1; omega
        rw [← e4]
        generalize 2 ^ more = A
        generalize 2 ^ (i - more - 1 + (K1 : Int) + (K2 : Int)).toNat = B
        have x1 : 4 * (m * A) * B = 4 * (m * (A * B)) := by rw [Nat.mul_assoc 4, Nat.mul_assoc m]
        have x2 : m * (A * B * 2) = m * (A * B) * 2 := (Nat.mul_assoc _ _ _).symm
        rw [x1, x2]
        omega
      rw [e3, ← Nat.pow_add]
      have e5 : 2 ^ (a + 1 + K1 + K2) = 2 * 2 ^ (a + (K1 + K2)) := by rw [← Nat.pow_succ']; congr 1; omega
      rw [e5]
      exact Nat.mul_le_mul_left 2 hv
    have : r * 2 ^ (i - j - more - 1 + (K1 : Int)).toNat * 2 ^ K2 ≤ 2 ^ (a + 1 + K1) * 2 ^ K2 := Nat.le_trans (Nat.mul_le_mul_left _ hd) key
    exact Nat.le_of_mul_le_mul_right this (Nat.two_pow_pos K2)
end Go.Ab
end
/- Floats: square roots are not too great. -/
section
namespace Go.Ab
open Ieee
end Go.Ab
end
/- Floats: exact writing; integral values; angles without whole turns. -/
section
namespace Go.Ab
open Ieee
theorem log_two {m j : Nat} (h0 : m ≠ 0) : (m * 2 ^ j).log2 = m.log2 + j := by
  have hp := Nat.two_pow_pos j
  refine (Nat.log2_eq_iff (Nat.mul_ne_zero h0 (by omega))).2 ⟨?_, ?_⟩
  · rw [Nat.pow_add]; exact Nat.mul_le_mul_right _ (Nat.log2_self_le h0)
  · rw [show m.log2 + j + 1 = (m.log2 + 1) + j by omega, Nat.pow_add]
    exact Nat.mul_lt_mul_of_pos_right Nat.lt_log2_self hp
end Go.Ab
end
/- Floats: sines, cosines, angles without whole turns: values and bounds. -/
section
namespace Go.Ab
open Ieee
theorem negF_dec {w m : Nat} {s : Bool} {e : Int} (h : FloatKind.f64.decode w = .number s m e) : FloatKind.f64.decode (Op.negFloat .f64 w) = .number (!s) m e := by
  have hx : Op.negFloat .f64 w = w ^^^ 2 ^ 63 := rfl
  have hs : Format.signWeight FloatKind.f64.format = 2 ^ 63 := rfl
  have hr : (w ^^^ 2 ^ 63) % 2 ^ 63 = w % 2 ^ 63 := by
    rw [Nat.xor_mod_two_pow, Nat.mod_self, Nat.xor_zero]
  have hb : ((w ^^^ 2 ^ 63) / 2 ^ 63 % 2 == 1) = !(w / 2 ^ 63 % 2 == 1) := by
    have t := Nat.testBit_xor w (2 ^ 63) 63
    rw [Nat.testBit_two_pow_self, Nat.testBit_eq_decide_div_mod_eq, Nat.testBit_eq_decide_div_mod_eq, Bool.xor_true] at t
    exact t
  rw [hx]
  have h : Format.read FloatKind.f64.format w = .number s m e := h
  show Format.read FloatKind.f64.format (w ^^^ 2 ^ 63) = _
  unfold Format.read at h ⊢
  simp only [hs] at h ⊢
  rw [hr, hb]
  split at h
  · rename_i h1; rw [if_pos h1]; cases h; rfl
  · rename_i h1
    rw [if_neg h1]
    split at h
    · rename_i h2; rw [if_pos h2]; cases h; rfl
    · split at h <;> cases h
theorem Bnd.neg {x : Option Nat} {b : Nat} (h : Bnd x b) : Bnd (negA .f64 x) b := by
  obtain ⟨w, s, m, e, rfl, h2, h3, h4⟩ := h
  exact ⟨_, !s, m, e, rfl, Nat.xor_lt_two_pow h2 (by decide), negF_dec h3, h4⟩
theorem Bnd.lit {w : Nat} {b : Nat} (h : w < 2 ^ 64) {s : Bool} {m : Nat} {e : Int} (hd : FloatKind.f64.decode w = .number s m e) {K : Nat} (hK : 0 ≤ e + K) (hv : V m e K ≤ 2 ^ (b + K)) : Bnd (some w) b := ⟨w, s, m, e, rfl, h, hd, lep_of hK hv⟩
theorem dec_rng32 {w m : Nat} {s : Bool} {e : Int} (h : FloatKind.f32.decode w = .number s m e) : m < 2 ^ 24 ∧ -149 ≤ e ∧ e ≤ 104 := by
  have hb : Format.binade single = 8388608 := rfl
  have hi : Format.infRung single = 2139095040 := rfl
  have hl : Format.leastPlace single = -149 := rfl
  have h : Format.read single w = .number s m e := h
  unfold Format.read at h
  simp only [hb, hl, hi] at h
  split at h
  · cases h; exact ⟨by omega, by omega, by omega⟩
  · split at h
    · cases h
      have := Nat.mod_lt (w % single.signWeight) (show 0 < 8388608 by decide)
      exact ⟨by omega, by omega, by omega⟩
    · split at h <;> cases h
/-- A number that is no infinity and no NaN. -/
def fin32 (x : Option Nat) : Bool := ford .f32 (fop .sub .f32 x x) (some 0) == some .eq
theorem fin32_num {x : Option Nat} (h0 : fOk .f32 x) (h : fin32 x = true) : ∃ w s m e, x = some w ∧ FloatKind.f32.decode w = .number s m e := by
  cases x with
  | none => cases h
  | some w =>
    obtain ⟨h1, h2⟩ := h0 w rfl
    cases hd : FloatKind.f32.decode w with
    | nan s t => rw [hd] at h2; cases h2
    | number s m e => exact ⟨w, s, m, e, rfl, hd⟩
    | infinity s =>
      exfalso
      have e : fop .sub .f32 (some w) (some w) = none := by
        show ((Format.read _ w).sum (Format.read _ w).opposite).map _ = _
        rw [show Format.read FloatKind.f32.format w = .infinity s from hd]
        cases s <;> rfl
      unfold fin32 at h
      rw [e] at h
      cases h
theorem wid_n {x : Option Nat} (h : fOk .f32 x) : HasKd .f64n (.flt .f64 (wid x)) := by
  obtain ⟨y, h1, h2, h3⟩ := widen_ok h
  have : wid x = y := by unfold wid; rw [h1]; rfl
  rw [this]
  exact ⟨y, rfl, h2, h3⟩
theorem kd_env {c : Cx} {s : St} {vs : List AV} {ls : List (Nat × Nat)} {H : AHeap} {E : Env} (h : In c s vs ls H) (hE : EnvOk s.env vs ls E) (t : Nat) {kd : Kd} (e : ((findA t s.env).bind fun v => match v with | .nd _ k => some k | _ => none) = some kd) : HasKd kd (E t) := by
  rw [Option.bind_eq_some_iff] at e
  obtain ⟨v, h1, h2⟩ := e
  have := hE t v h1
  cases v <;> cases h2
  simp only [D] at this
  exact this.2
end Go.Ab
end
/- Floats: absolute values, limits, quotients that are numbers, integers out of floats. -/
section
namespace Go.Ab
open Ieee
theorem cmp_eq {a b : Int} : (some (compare a b) == some Ordering.eq) = decide (a = b) := by
  show (some (compareOfLessAndEq a b) == some Ordering.eq) = _
  unfold compareOfLessAndEq
  by_cases h : a < b
  · rw [if_pos h, decide_eq_false (by omega)]; rfl
  · rw [if_neg h]
    by_cases h2 : a = b
    · rw [if_pos h2, decide_eq_true h2]; rfl
    · rw [if_neg h2, decide_eq_false h2]; rfl
theorem wid_some {x : Option Nat} (h : fOk .f32 x) (hs : x.isSome = true) : (wid x).isSome = true := by
  cases x with
  | none => cases hs
  | some w =>
    obtain ⟨y, h1, _, _⟩ := widen_ok h
    have h2 := h1
    unfold f2f at h1
    simp only [Option.map_eq_some_iff] at h1
    obtain ⟨a, _, rfl⟩ := h1
    unfold wid; rw [h2]; rfl
end Go.Ab
end
/- Floats: nought and a number; products in either order. -/
section
namespace Go.Ab
open Ieee
theorem enc32 {b n : Nat} {j : Int} {t : Bool} (hb : b < 2 ^ 32) (h : FloatKind.f32.decode b = .number t n j) (h0 : n ≠ 0) : FloatKind.f32.encode (.number t (n * 2 ^ (j + 149).toNat) (-149)) = b := by
  have hs : Format.signWeight single = 2147483648 := rfl
  have hi : Format.infRung single = 2139095040 := rfl
  have hbin : Format.binade single = 8388608 := rfl
  have hl : Format.leastPlace single = -149 := rfl
  have hf : single.fractionBits = 23 := rfl
  have hb : b < 4294967296 := hb
  have hsign : ∀ r t, r = b % 2147483648 → t = (b / 2147483648 % 2 == 1) → single.word t r = b := by
    intro r t hr ht
    unfold Format.word
    rw [hs]
    cases t with
    | true =>
      have : b / 2147483648 % 2 = 1 := by simpa using ht.symm
      rw [if_pos rfl]; omega
    | false =>
      have : ¬ b / 2147483648 % 2 = 1 := by simpa using ht.symm
      rw [if_neg (by decide)]; omega
  have h : Format.read single b = .number t n j := h
  show Format.nearest single t (n * 2 ^ (j + 149).toNat) (-149) = b
  unfold Format.read at h
  simp only [hs, hi, hbin, hl] at h
  split at h
  · rename_i h1
    cases h
    rw [show ((-149 : Int) + 149).toNat = 0 from rfl, Nat.pow_zero, Nat.mul_one]
    have hlog : (b % 2147483648).log2 ≤ 22 := by
      have := (Nat.log2_lt (n := b % 2147483648) (k := 23) h0).2 h1
      omega
    unfold Format.nearest
    rw [if_neg h0]
    simp only [hf, hl, hbin, hi]
    rw [show max ((-149 : Int) + ((b % 2147483648).log2 : Int) - ((23 : Nat) : Int)) (-149) = -149 by omega]
    rw [show ((-149 : Int) - -149).toNat = 0 from rfl, Nat.shiftLeft_zero, cut_exact .even _ (Nat.zero_le _) (Nat.mod_one _), Nat.pow_zero, Nat.div_one, Nat.zero_mul, Nat.zero_add, Nat.min_eq_left (by omega)]
    exact hsign _ _ rfl rfl
  · split at h
    · rename_i h1 h2
      cases h
      obtain ⟨r, hr⟩ : ∃ r, r = b % 2147483648 := ⟨_, rfl⟩
      obtain ⟨s, hsx⟩ : ∃ s, s = (b / 2147483648 % 2 == 1) := ⟨_, rfl⟩
      rw [← hr] at h0 h1 h2 ⊢
      rw [← hsx]
      obtain ⟨k, hk⟩ : ∃ k, r / 8388608 = k + 1 := ⟨r / 8388608 - 1, by omega⟩
      have hn : 8388608 + r % 8388608 < 16777216 := by omega
      obtain ⟨n, hnn⟩ : ∃ n, n = 8388608 + r % 8388608 := ⟨_, rfl⟩
      rw [← hnn] at h0 hn ⊢
      rw [show ((-149 : Int) + ((r / 8388608 - 1 : Nat) : Int) + 149).toNat = k by omega]
      have hlog : n.log2 = 23 := by
        have a1 := (Nat.log2_lt (n := n) (k := 24) h0).2 (by omega)
        have a2 := (Nat.le_log2 (n := n) (k := 23) h0).2 (by omega)
        omega
      have hl2 : (n * 2 ^ k).log2 = 23 + k := by rw [log_two h0, hlog]
      have hne : n * 2 ^ k ≠ 0 := Nat.mul_ne_zero h0 (by have := Nat.two_pow_pos k; omega)
      unfold Format.nearest
      rw [if_neg hne]
      simp only [hf, hl, hbin, hi, hl2]
      rw [show max ((-149 : Int) + ((23 + k : Nat) : Int) - ((23 : Nat) : Int)) (-149) = -149 + k by omega]
      rw [show ((-149 : Int) - (-149 + (k : Int))).toNat = 0 by omega, Nat.shiftLeft_zero, show (-149 + (k : Int) - -149).toNat = k by omega]
      rw [cut_exact .even _ (by rw [hl2]; omega) (Nat.mul_mod_left _ _), Nat.mul_div_cancel _ (Nat.two_pow_pos k)]
      have he : k * 8388608 + n = r := by omega
      rw [he, Nat.min_eq_left (by omega)]
      exact hsign _ _ hr hsx
    · split at h <;> cases h
end Go.Ab
end
/- Floats: signs; numbers that are equal. -/
section
namespace Go.Ab
open Ieee
def sgnF (y : Option Nat) : Bool := match wid y with
  | some b => decide (9223372036854775808 ≤ b)
  | none => false
theorem ford_isSome {k : FloatKind} {x y : Option Nat} {o : Ordering} (h : ford k x y = some o) : x.isSome = true ∧ y.isSome = true := by
  cases x <;> cases y <;> first | (cases h; done) | exact ⟨rfl, rfl⟩
theorem feq_self {x : Option Nat} (hx : fOk .f32 x) (hs : x.isSome = true) : (ford .f32 x x == some .eq) = true := by
  cases x with
  | none => cases hs
  | some w => show ((FloatKind.f32.decode w).order (FloatKind.f32.decode w) == some .eq) = true; rw [order_self (hx w rfl).2]; rfl
theorem signed_inj {s t : Bool} {A B : Nat} (h : (if s then -(A : Int) else (A : Int)) = (if t then -(B : Int) else (B : Int))) : A = B ∧ (A = 0 ∨ s = t) := by
  cases s <;> cases t <;> simp at h <;> refine ⟨by omega, ?_⟩
  · exact .inr rfl
  · exact .inl (by omega)
  · exact .inl (by omega)
  · exact .inr rfl
theorem f32_zero {w : Nat} {s : Bool} {m : Nat} {e : Int} (hw : w < 2 ^ 32) (hd : FloatKind.f32.decode w = .number s m e) (h0 : m = 0) : w = 0 ∨ w = 2147483648 := by
  have hs : Format.signWeight single = 2147483648 := rfl
  have hi : Format.infRung single = 2139095040 := rfl
  have hb : Format.binade single = 8388608 := rfl
  have hl : Format.leastPlace single = -149 := rfl
  have hd : Format.read single w = .number s m e := hd
  have hw : w < 4294967296 := hw
  unfold Format.read at hd
  simp only [hs, hi, hb, hl] at hd
  split at hd
  · cases hd; omega
  · split at hd
    · cases hd; omega
    · split at hd <;> cases hd
theorem inf_word {w : Nat} {s : Bool} (hw : w < 2 ^ 32) (hd : FloatKind.f32.decode w = .infinity s) : w = if s then 4286578688 else 2139095040 := by
  have hs : Format.signWeight single = 2147483648 := rfl
  have hi : Format.infRung single = 2139095040 := rfl
  have hb : Format.binade single = 8388608 := rfl
  have hl : Format.leastPlace single = -149 := rfl
  have hd : Format.read single w = .infinity s := hd
  have hw : w < 4294967296 := hw
  unfold Format.read at hd
  simp only [hs, hi, hb, hl] at hd
  split at hd
  · cases hd
  · split at hd
    · cases hd
    · split at hd
      · rename_i h1 h2 h3
        injection hd with e1
        rw [← e1]
        by_cases h9 : w / 2147483648 % 2 = 1
        · rw [h9]; show w = 4286578688; omega
        · rw [show (w / 2147483648 % 2 == 1) = false by simpa using h9]; show w = 2139095040; omega
      · cases hd
/-- Numbers that compare equal are the same word, or zeros of both signs. -/
theorem feq_word {u v : Nat} (hu : fOk .f32 (some u)) (hv : fOk .f32 (some v)) (h : (ford .f32 (some u) (some v) == some .eq) = true) : u = v ∨ (u = 0 ∧ v = 2147483648) ∨ (u = 2147483648 ∧ v = 0) := by
  obtain ⟨u1, u2⟩ := hu u rfl
  obtain ⟨v1, v2⟩ := hv v rfl
  have h : ((FloatKind.f32.decode u).order (FloatKind.f32.decode v) == some .eq) = true := h
  cases hd : FloatKind.f32.decode u with
  | nan s t => rw [hd] at u2; cases u2
  | infinity s =>
    cases kd : FloatKind.f32.decode v with
    | nan s t => rw [kd] at v2; cases v2
    | number t n j => rw [hd, kd] at h; cases s <;> cases h
    | infinity t =>
      rw [hd, kd] at h
      left
      have a := inf_word u1 hd
      have b := inf_word v1 kd
      cases s <;> cases t <;> first | (cases h; done) | (rw [a, b])
  | number s m e =>
    cases kd : FloatKind.f32.decode v with
    | nan s t => rw [kd] at v2; cases v2
    | infinity t => rw [hd, kd] at h; cases t <;> cases h
    | number t n j =>
      rw [hd, kd] at h
      have h : (some (compare (signed s m (e - min e j).toNat) (signed t n (j - min e j).toNat)) == some Ordering.eq) = true := h
      rw [cmp_eq] at h
      have h := of_decide_eq_true h
      unfold signed at h
      obtain ⟨h1, h2⟩ := signed_inj h
      obtain ⟨_, r2, _⟩ := dec_rng32 hd
      obtain ⟨_, q2, _⟩ := dec_rng32 kd
      rw [Nat.shiftLeft_eq, Nat.shiftLeft_eq] at h1
      have hz : m * 2 ^ (e + 149).toNat = n * 2 ^ (j + 149).toNat := by
        rw [show (e + 149).toNat = (e - min e j).toNat + (min e j + 149).toNat by omega, show (j + 149).toNat = (j - min e j).toNat + (min e j + 149).toNat by omega, Nat.pow_add, Nat.pow_add, ← Nat.mul_assoc, ← Nat.mul_assoc, h1]
      by_cases m0 : m = 0
      · have n0 : n = 0 := by
          subst m0
          have hp := Nat.two_pow_pos (j + 149).toNat
          rw [Nat.zero_mul] at hz
          rcases Nat.mul_eq_zero.1 hz.symm with h9 | h9
          · exact h9
          · omega
        have a := f32_zero u1 hd m0
        have b := f32_zero v1 kd n0
        omega
      · have n0 : n ≠ 0 := by
          rintro rfl
          have hp := Nat.two_pow_pos (e + 149).toNat
          rw [Nat.zero_mul] at hz
          rcases Nat.mul_eq_zero.1 hz with h9 | h9
          · exact m0 h9
          · omega
        have hst : s = t := by
          rcases h2 with h2 | h2
          · exfalso
            rw [Nat.shiftLeft_eq] at h2
            have hp := Nat.two_pow_pos (e - min e j).toNat
            rcases Nat.mul_eq_zero.1 h2 with h9 | h9
            · exact m0 h9
            · omega
          · exact h2
        left
        rw [← enc32 u1 hd m0, ← enc32 v1 kd n0, hz, hst]
def atI (x y : Option Nat) (r : Bool) : Bool := if x = y then r else (ford .f32 y x == some .lt || (ford .f32 x y == some .eq && !sgnF x))
def atP (x y : Option Nat) (r : Bool) : Bool := if (ford .f32 x y == some .eq) = true then (if x = y then r else decide (x = some 0)) else (ford .f32 y x == some .lt)
theorem at_eq {x y : Option Nat} (hx : fOk .f32 x) (hy : fOk .f32 y) (sx : x.isSome = true) (sy : y.isSome = true) (r : Bool) : atI x y r = atP x y r := by
  obtain ⟨u, rfl⟩ := Option.isSome_iff_exists.1 sx
  obtain ⟨v, rfl⟩ := Option.isSome_iff_exists.1 sy
  unfold atI atP
  by_cases e : some u = some v
  · rw [if_pos e, ← e, if_pos (feq_self hx rfl), if_pos rfl]
  · rw [if_neg e]
    cases hf : (ford .f32 (some u) (some v) == some .eq) with
    | false => simp
    | true =>
      rw [if_pos rfl, if_neg e]
      have h2 : (ford .f32 (some v) (some u) == some .lt) = false := by
        rcases feq_word hx hy hf with h | ⟨rfl, rfl⟩ | ⟨rfl, rfl⟩
        · exact absurd (by rw [h]) e
        · decide +kernel
        · decide +kernel
      rw [h2]
      rcases feq_word hx hy hf with h | ⟨rfl, rfl⟩ | ⟨rfl, rfl⟩
      · exact absurd (by rw [h]) e
      · decide +kernel
      · decide +kernel
end Go.Ab
end
/- Remainders by words that are not literals. -/
section
namespace Go.Ab
end Go.Ab
end
/- Slices without their first element; outcomes that are alike. -/
section
namespace Go.Ab
end Go.Ab
end
/- Distances in a graph: breadth first, and by rounds over the links. -/
section
namespace Go.Ab
def conn (e : Nat × Nat) (u v : Nat) : Prop := (e.1 = u ∧ e.2 = v) ∨ (e.1 = v ∧ e.2 = u)
structure BInv (es : List (Nat × Nat)) (n a : Nat) (fl : List (Nat × Nat)) : Prop where
  nd : (fl.map Prod.fst).Nodup
  lt : ∀ p ∈ fl, p.1 < n
  h0 : fl[0]? = some (a, 0)
  z : ∀ p ∈ fl, p.2 = 0 → p.1 = a
  srt : ∀ (j j' : Nat) (p q : Nat × Nat), j ≤ j' → fl[j]? = some p → fl[j']? = some q → p.2 ≤ q.2
  le : ∀ (j : Nat) (p : Nat × Nat), fl[j]? = some p → p.2 ≤ j
  p1 : ∀ p ∈ fl, ∀ d, p.2 = d + 1 → ∃ u, (u, d) ∈ fl ∧ ∃ e ∈ es, conn e u p.1
theorem get_lt {α : Type} {l : List α} {q : α} {j : Nat} (h : l[j]? = some q) : j < l.length := by
  rcases Nat.lt_or_ge j l.length with hj | hj
  · exact hj
  · rw [List.getElem?_eq_none hj] at h; cases h
/-! rounds -/
/-! lists of words -/
end Go.Ab
end
/- Maps of words to words; queues: slices that fill their rows from some place on. -/
section
namespace Go.Ab
def mpT (fl : List (Nat × Nat)) : List (AV × AV) := fl.map fun p => (.int .i64 (p.1 : Int), .int .i64 (p.2 : Int))
inductive MpF (H : AHeap) (fl : List (Nat × Nat)) : AV → Prop where
  | mk {l : Nat} (hg : H.get l = some (.mp (mpT fl))) : MpF H fl (.slice l 0 0 0 1)
/-- A slice that has its row for itself from its first element on. -/
inductive SlV (H : AHeap) (sz : Nat) (ms : List (List AV)) : AV → Prop where
  | sl {l o n cap : Nat} {pre : List AV} (hg : H.get l = some (.row (pre ++ ms.flatten) true)) (hn : ms.length = n) (hc : n ≤ cap) (ho : pre.length = o) : SlV H sz ms (.slice l o n cap sz)
section
variable {H H' : AHeap} {sz : Nat} {ms : List (List AV)} {S : AV} {fl : List (Nat × Nat)}
theorem MpF.grew (g : Grew H H') (h : MpF H fl S) : MpF H' fl S := by
  cases h with
  | mk hg => exact .mk (g.at hg)
theorem MpF.lt (h : MpF H fl S) : ∀ l, AtS S l → l < H.next := by
  intro l hl
  cases h with
  | mk hg => rw [atS hl]; exact H.lt_of_get hg
theorem MpF.only {S1 : AV} (h : MpF H fl S) (k : OnlyS S1 H H') (hn : ApartS S S1) : MpF H' fl S := by
  cases h with
  | mk hg => exact .mk (k.at hg ⟨hn.ne _ ⟨_, _, _, _, rfl⟩⟩)
theorem MpF.apart_new (h : MpF H fl S) {l : Nat} (hl : H.next ≤ l) : ApartL S l := ⟨fun ha => Nat.lt_irrefl _ (Nat.lt_of_lt_of_le (h.lt l ha) hl)⟩
theorem MpF.keep {f : Nat} {ws : List Win} (h : MpF H fl S) (hk : Kept f (winLs ws) H H') (hn : NotS S (ws.drop f)) : MpF H' fl S := by
  cases h with
  | @mk l hg =>
    refine .mk (kept_at hk hg ?_)
    generalize ws.drop f = us at hn
    induction us with
    | nil => trivial
    | cons w us ih => exact ⟨⟨fun e => hn.1.ne ⟨_, _, _, _, by rw [e]⟩⟩, ih hn.2⟩
theorem SlV.grew (g : Grew H H') (h : SlV H sz ms S) : SlV H' sz ms S := by
  cases h with
  | sl hg hn hc ho => exact .sl (g.at hg) hn hc ho
theorem SlV.lt (h : SlV H sz ms S) : ∀ l, AtS S l → l < H.next := by
  intro l hl
  cases h with
  | sl hg => rw [atS hl]; exact H.lt_of_get hg
theorem SlV.only {S1 : AV} (h : SlV H sz ms S) (k : OnlyS S1 H H') (hn : ApartS S S1) : SlV H' sz ms S := by
  cases h with
  | sl hg h1 h2 h3 => exact .sl (k.at hg ⟨hn.ne _ ⟨_, _, _, _, rfl⟩⟩) h1 h2 h3
theorem SlV.apart_new (h : SlV H sz ms S) {l : Nat} (hl : H.next ≤ l) : ApartL S l := ⟨fun ha => Nat.lt_irrefl _ (Nat.lt_of_lt_of_le (h.lt l ha) hl)⟩
theorem SlV.one (h : SlV H sz ms S) : S.one = true := by cases h; rfl
theorem SlV.keep {f : Nat} {ws : List Win} (h : SlV H sz ms S) (hk : Kept f (winLs ws) H H') (hn : NotS S (ws.drop f)) : SlV H' sz ms S := by
  cases h with
  | @sl l o n cap pre hg h1 h2 h3 =>
    refine .sl (kept_at hk hg ?_) h1 h2 h3
    generalize ws.drop f = us at hn
    induction us with
    | nil => trivial
    | cons w us ih => exact ⟨⟨fun e => hn.1.ne ⟨_, _, _, _, by rw [e]⟩⟩, ih hn.2⟩
end
section
variable {E : Env} {H : AHeap} {t y l v d : Nat} {fl : List (Nat × Nat)} {z : AV}
end
/-! the queue of a search: what has not been looked at -/
def qT (fl : List (Nat × Nat)) (k : Nat) : List (List AV) := (fl.drop k).map fun p => [.int .i64 (p.1 : Int)]
theorem qT_cons {fl : List (Nat × Nat)} {k : Nat} {p : Nat × Nat} (h : fl[k]? = some p) : qT fl k = [.int .i64 (p.1 : Int)] :: qT fl (k + 1) := by
  have hk := get_lt h
  unfold qT
  rw [List.drop_eq_getElem_cons hk]
  rw [List.getElem?_eq_getElem hk] at h
  cases h
  rfl
theorem SlV.head {H : AHeap} {S : AV} {fl : List (Nat × Nat)} {k : Nat} {p : Nat × Nat} (h : SlV H 1 (qT fl k) S) (hp : fl[k]? = some p) : ∃ l o n cap pre post, S = .slice l o n cap 1 ∧ H.get l = some (.row (pre ++ ([.int .i64 (p.1 : Int)] ++ post)) true) ∧ pre.length = o ∧ 0 < n := by
  rw [qT_cons hp] at h
  cases h with
  | @sl l o n cap pre hg hn hc ho => exact ⟨l, o, n, cap, pre, _, rfl, hg, ho, by subst hn; simp⟩
theorem SlV.tail {H : AHeap} {S : AV} {fl : List (Nat × Nat)} {k : Nat} {p : Nat × Nat} (h : SlV H 1 (qT fl k) S) (hp : fl[k]? = some p) : ∃ V, SlV H 1 (qT fl (k + 1)) V ∧ (∀ l, AtS V l → AtS S l) ∧ ∀ (E : Env) get, aval E get (.slSl 1 (.const S) (some (.const (.int .i64 1))) none none) = some V := by
  rw [qT_cons hp] at h
  cases h with
  | @sl l o n cap pre hg hn hc ho =>
    subst hn
    refine ⟨.slice l (o + 1 * 1) (([AV.int .i64 (p.1 : Int)] :: qT fl (k + 1)).length - 1) (cap - 1) 1, .sl (pre := pre ++ [.int .i64 (p.1 : Int)]) (by rw [hg]; simp) (by simp) (by simp at hc ⊢; omega) (by simp [ho]), fun l' hl' => ?_, fun E get => ?_⟩
    · rw [atS hl']; exact ⟨_, _, _, _, rfl⟩
    · simp only [aval, Opd.ev, Option.map_some, Option.map_none]
      rw [if_pos trivial]
      have : bnds ([AV.int .i64 (p.1 : Int)] :: qT fl (k + 1)).length cap (some (.int .i64 1)) none none = some (1, ([AV.int .i64 (p.1 : Int)] :: qT fl (k + 1)).length, cap) := by
        simp only [List.length_cons] at hc
        simp only [bnds, bnd, List.length_cons]
        rw [if_pos ⟨by omega, by simp; omega⟩]
        simp [hc]
      rw [this]
theorem SlV.len {H : AHeap} {S : AV} {ms : List (List AV)} {sz : Nat} (h : SlV H sz ms S) : ∀ (E : Env) get, aval E get (.len (.const S)) = some (.int .i64 (ms.length : Int)) := by
  cases h with
  | sl _ hn _ _ => subst hn; intro E get; rfl
end Go.Ab
end
/- Room behind a row; zeros appended; copies; whether two slices lie over each other. -/
section
namespace Go.Ab
section
variable {P : Program} {μ : Mu} {F : Nat → Prop} {H : AHeap} {w : World}
/-- A row that may be written goes on, with what is unknown, as far as a slice of it has room. -/
theorem Sim.room (hs : Sim F μ H w) {l o n cap sz k : Nat} {cs : List AV} {v : Value} (hg : H.get l = some (.row cs true)) (hv : R μ (.slice l o n cap sz) v) (hc : cap ≠ 0) (hk : cs.length + k ≤ o + cap * sz) :
    Sim F μ (H.put l (.row (cs ++ List.replicate k .any) true)) w := by
  obtain ⟨li, hm, _, hlim, _⟩ := slice_some hv hc
  have hln : l < H.next := H.lt_of_get hg
  have hget : ∀ l', l' ≠ l → (H.put l (.row (cs ++ List.replicate k .any) true)).get l' = H.get l' := fun l' h => by rw [AHeap.put_get, if_neg (by omega)]
  have hgets : (H.put l (.row (cs ++ List.replicate k .any) true)).get l = some (.row (cs ++ List.replicate k .any) true) := by rw [AHeap.put_get, if_pos ⟨rfl, hln⟩]
  have key : ∀ l' b', (H.put l (.row (cs ++ List.replicate k .any) true)).get l' = some b' → ∃ b'', H.get l' = some b'' ∧ (b'.wr = true → b''.wr = true) := by
    intro l' b' h'
    by_cases h : l' = l
    · subst h
      exact ⟨_, hg, fun _ => rfl⟩
    · rw [hget l' h] at h'
      exact ⟨b', h', id⟩
  refine ⟨hs.dom, ?_, ?_, ?_, ?_, hs.fresh⟩
  · intro l' li' cs' wr hg' hm'
    by_cases h : l' = l
    · subst h
      rw [hgets] at hg'
      cases hg'
      obtain ⟨c, e, lo, hi, g1, g2, g3, g4, g5⟩ := hs.row l' li' cs true hg hm'
      rw [hm] at hm'
      cases hm'
      refine ⟨c, e, lo, hi, g1, g2, by rw [List.length_append, List.length_replicate]; omega, ?_, g5⟩
      intro i a hi'
      by_cases hlt : i < cs.length
      · rw [List.getElem?_append_left hlt] at hi'
        exact g4 i a hi'
      · rw [List.getElem?_append_right (by omega), List.getElem?_replicate] at hi'
        split at hi'
        · cases hi'
          have : li.base + i < c.size := by omega
          exact ⟨c[li.base + i], Array.getElem?_eq_getElem this, .any _⟩
        · cases hi'
    · rw [hget l' h] at hg'
      exact hs.row l' li' cs' wr hg' hm'
  · intro l' li' es hg' hm'
    by_cases h : l' = l
    · subst h; rw [hgets] at hg'; cases hg'
    · rw [hget l' h] at hg'
      exact hs.mp l' li' es hg' hm'
  · intro l1 l2 b1 b2 li1 li2 hne h1 hw h2 hm1 hm2
    obtain ⟨c1, k1, k2⟩ := key l1 b1 h1
    obtain ⟨c2, k3, _⟩ := key l2 b2 h2
    exact hs.sep l1 l2 c1 c2 li1 li2 hne k1 (k2 hw) k3 hm1 hm2
  · intro l1 b1 li1 h1 hw hm1
    obtain ⟨c1, k1, k2⟩ := key l1 b1 h1
    exact hs.may l1 c1 li1 k1 (k2 hw) hm1

theorem acalls_room {f : FuncId} {args : List AV} {Q : AV → AHeap → Prop} {l o n cap sz k j : Nat} {cs : List AV} (ha : args[j]? = some (.slice l o n cap sz)) (hg : H.get l = some (.row cs true)) (hc : cap ≠ 0) (hk : cs.length + k ≤ o + cap * sz)
    (h : ACalls P f args (H.put l (.row (cs ++ List.replicate k .any) true)) Q) : ACalls P f args H Q := by
  intro F μ w vs hs hR
  obtain ⟨v, _, hv⟩ := hR.get ha
  exact h F μ w vs (hs.room hg hv hc hk) hR

/-- slices.overlaps at rows that lie apart. -/
theorem x_overlaps {f : FuncId} {fn : Func} (hf : P.funcs[f]? = some fn) (hname : (fn.name == "runtime.NumGoroutine") = false) (hb : fn.body.isNone = true) (hn : Extern.findNext fn = none)
    {tS tR e : TypeId} (ht : P.underlying tS = some (.slice e)) {size : Nat} (hz : tySize P e = some size) (he : Extern.find fn = some (Extern.SlicesOverlaps.overlaps #[tS, tS] #[tR]))
    {la oa na ca lb ob nb cb sz : Nat} {csa csb : List AV} {wb : Bool} (hga : H.get la = some (.row csa true)) (hgb : H.get lb = some (.row csb wb)) (hne : la ≠ lb) (hca : ca ≠ 0) (hcb : cb ≠ 0) (hsz : 0 < sz) :
    APure P f [.slice la oa na ca sz, .slice lb ob nb cb sz] H (.bool false) := by
  intro F μ w vs hs ha
  obtain ⟨v1, us, rfl, h1, ha⟩ := ha.cons_inv
  obtain ⟨v2, us, rfl, h2, ha⟩ := ha.cons_inv
  rw [ha.nil_inv]
  obtain ⟨li, hm, rfl, hlim, _⟩ := slice_some h1 hca
  obtain ⟨li', hm', rfl, hlim', _⟩ := slice_some h2 hcb
  obtain ⟨c, ce, lo, hi, g1, g2, g3, g4, g5⟩ := hs.row la li csa true hga hm
  obtain ⟨c', ce', lo', hi', k1, k2, k3, k4, k5⟩ := hs.row lb li' csb wb hgb hm'
  have hblk := hs.sep la lb _ _ li li' hne hga rfl hgb hm hm'
  have hfz : ∀ o, li.base ≤ o → w.frozen? ⟨li.blk, o, none⟩ = false := fun o ho => by
    rw [frozen_of g1]
    have := g5 rfl o ho
    simp only [Bool.and_eq_false_iff, decide_eq_false_iff_not]
    omega
  have hpos : 0 < cb * sz := Nat.mul_pos (by omega) hsz
  have hrun := Lib.run_overlaps_apart (P := P) w tS tR e ht size (fun w => run_size hz) ⟨li.blk, li.base + oa, none⟩ ⟨li'.blk, li'.base + ob, none⟩ na ca nb cb hblk ce ce' c.size c'.size
    (by simp only [World.shape?, g1]) (by simp only [World.shape?, k1]) (by omega) (hfz _ (Nat.le_add_right _ _)) (hfz _ (by omega))
  rw [run_callFunc_extern hf hname hb hn he, hrun]
  exact Out.same ⟨rfl, rfl⟩ hs (.bool _)
end
section
variable {P : Program} {o : Pt} {d : Option Nat} {Q : AExit → Env → AHeap → Prop} {E : Env} {H : AHeap}
theorem q_eff' {op : AOp} (hq : op.quiet = true) {r : AV} (hv : aval E H.get op = some r) {k : AV → AHeap → Prop} (h : k r H) : aeff P E H k op := by
  cases op <;> first | (cases hq; done) | (simp only [aeff]; rw [hv]; exact h)
theorem res_q {op : AOp} (ho : o = .ops (⟨d, op, none⟩ :: ptRest o) (ptFr o)) (hq : op.quiet = true) {r : AV} (ha : aval E H.get op = some r) (h : Res P (.ops (ptRest o) (ptFr o)) Q (E.put d r) H) : Res P o Q E H := by
  rw [ho]
  simp only [Res, arun]
  exact q_eff' hq ha h
def ptRestM : Pt → List AOper
  | .mixq (_ :: rest) _ _ => rest
  | _ => []
def ptKids : Pt → AKids
  | .mixq _ k _ => k
  | _ => .nil
theorem res_qM {op : AOp} (ho : o = .mixq (⟨d, op, none⟩ :: ptRestM o) (ptKids o) (ptFr o)) (hq : op.quiet = true) {r : AV} (ha : aval E H.get op = some r) (h : Res P (.mixq (ptRestM o) (ptKids o) (ptFr o)) Q (E.put d r) H) : Res P o Q E H := by
  rw [ho]
  simp only [Res, arun]
  exact q_eff' hq ha h
theorem cap_val {t l o' n c z : Nat} (h : E t = .slice l o' n c z) : aval E H.get (.cap (.tmp t)) = some (.int .i64 (c : Int)) := by
  show (match E t with | .slice _ _ _ c _ => some (AV.int .i64 (c : Int)) | .nilslice => some (.int .i64 0) | _ => none) = _
  rw [h]
/-- A slice of a slice. -/
theorem sub_val {t l o' n c z : Nat} {lo hi : Option Opd} {a b : Nat} (h : E t = .slice l o' n c z) (hlo : lo.map (fun x : Opd => x.ev E) = none ∧ a = 0 ∨ lo.map (fun x : Opd => x.ev E) = some (.int .i64 (a : Int))) (hhi : hi.map (fun x : Opd => x.ev E) = none ∧ b = n ∨ hi.map (fun x : Opd => x.ev E) = some (.int .i64 (b : Int))) (hab : a ≤ b) (hbc : b ≤ c) :
    aval E H.get (.slSl z (.tmp t) lo hi none) = some (.slice l (o' + a * z) (b - a) (c - a) z) := by
  show (match E t with
    | .slice l o len cap sz' => if z = sz' then
        match bnds len cap (lo.map (fun x : Opd => x.ev E)) (hi.map (fun x : Opd => x.ev E)) none with
        | some (a, h, m) => some (AV.slice l (o + a * z) (h - a) (m - a) z)
        | none => none
      else none
    | .nilslice => match bnds 0 0 (lo.map (fun x : Opd => x.ev E)) (hi.map (fun x : Opd => x.ev E)) none with
      | some _ => some .nilslice
      | none => none
    | _ => none) = _
  rw [h]
  simp only []
  rw [if_pos trivial]
  have e1 : bnd none c c = some c := rfl
  have e2 : bnd (hi.map (fun x : Opd => x.ev E)) n c = some b := by
    rcases hhi with ⟨h1, rfl⟩ | h1
    · rw [h1]; rfl
    · rw [h1]
      simp only [bnd]
      rw [if_pos ⟨by omega, by omega⟩]
      simp
  have e3 : bnd (lo.map (fun x : Opd => x.ev E)) 0 b = some a := by
    rcases hlo with ⟨h1, rfl⟩ | h1
    · rw [h1]; rfl
    · rw [h1]
      simp only [bnd]
      rw [if_pos ⟨by omega, by omega⟩]
      simp
  have : bnds n c (lo.map (fun x : Opd => x.ev E)) (hi.map (fun x : Opd => x.ev E)) none = some (a, b, c) := by
    unfold bnds
    simp only []
    rw [e1]
    simp only []
    rw [e2]
    simp only []
    rw [e3]
  rw [this]
theorem res_appendZ {sz bytes : Nat} {zs : List AV} {x y : Opd} (ho : o = .ops (⟨d, .appendZ sz bytes zs x y, none⟩ :: ptRest o) (ptFr o)) {l o' n cap m : Nat} {cs : List AV} {wr : Bool} (hx : x.ev E = .slice l o' n cap sz) (hy : y.ev E = .int .i64 (m : Int)) (hg : H.get l = some (.row cs wr))
    (hle : o' + n * sz ≤ cs.length) (hs : 0 < sz) (h0 : 0 < m) (hc : cap < n + m) (hc0 : cap ≠ 0) (hb : (2 * (n + m) + 192) * bytes ≤ 281474976710656) (h1 : zs.all AV.one = true)
    (h : ∀ c, n + m ≤ c → Res P (.ops (ptRest o) (ptFr o)) Q (E.put d (.slice H.next 0 (n + m) c sz)) (H.new (.row ((cs.drop o').take (n * sz) ++ (List.replicate m zs).flatten) true))) : Res P o Q E H := by
  rw [ho]
  simp only [Res, arun, aeff, hx, hy, appendZA]
  rw [if_pos ⟨trivial, hs, by omega, by simpa using hc, hc0⟩, hg]
  simp only []
  rw [if_pos hle]
  simp only [Int.toNat_natCast]
  refine ⟨by simpa using hb, ?_, fun c hc => h c hc⟩
  rw [List.all_eq_true]
  intro x hx
  simp only [List.mem_flatten, List.mem_replicate] at hx
  obtain ⟨l', ⟨_, rfl⟩, hx⟩ := hx
  exact List.all_eq_true.1 h1 x hx
theorem copy_eff {sz : Nat} {x y : Opd} {l o' n cap m : Nat} {cs ys : List AV} {k : AV → AHeap → Prop} (hx : x.ev E = .slice l o' n cap sz) (hy : srcCells H.get sz (y.ev E) = some (ys, m)) (hm : Nat.min m n ≠ 0) (hg : H.get l = some (.row cs true)) (hle : o' + n * sz ≤ cs.length)
    (h1 : (ys.take (Nat.min m n * sz)).all AV.one = true) (h : k (.int .i64 (Nat.min m n)) (H.put l (.row (laid cs o' (ys.take (Nat.min m n * sz))) true))) : aeff P E H k (.copy sz x y) := by
  simp only [aeff, hx]
  rw [if_pos trivial, hy]
  simp only []
  rw [if_neg hm, hg]
  simp only []
  rw [if_pos ⟨hle, h1⟩]
  exact h
theorem res_copy {sz : Nat} {x y : Opd} (ho : o = .ops (⟨d, .copy sz x y, none⟩ :: ptRest o) (ptFr o)) {l o' n cap m : Nat} {cs ys : List AV} (hx : x.ev E = .slice l o' n cap sz) (hy : srcCells H.get sz (y.ev E) = some (ys, m)) (hm : Nat.min m n ≠ 0) (hg : H.get l = some (.row cs true)) (hle : o' + n * sz ≤ cs.length)
    (h1 : (ys.take (Nat.min m n * sz)).all AV.one = true) (h : Res P (.ops (ptRest o) (ptFr o)) Q (E.put d (.int .i64 (Nat.min m n))) (H.put l (.row (laid cs o' (ys.take (Nat.min m n * sz))) true))) : Res P o Q E H := by
  rw [ho]
  simp only [Res, arun]
  exact copy_eff hx hy hm hg hle h1 h
/-- In a drawn region. -/
theorem res_copyK {sz : Nat} {x y : Opd} (ho : o = .kids (.cons true ⟨d, .copy sz x y, none⟩ (.node (kQs o) (kKids o)) .nil) (ptFr o)) {l o' n cap m : Nat} {cs ys : List AV} (hx : x.ev E = .slice l o' n cap sz) (hy : srcCells H.get sz (y.ev E) = some (ys, m)) (hm : Nat.min m n ≠ 0) (hg : H.get l = some (.row cs true)) (hle : o' + n * sz ≤ cs.length)
    (h1 : (ys.take (Nat.min m n * sz)).all AV.one = true) (h : Res P (.mixq (kQs o) (kKids o) (ptFr o)) Q (E.put d (.int .i64 (Nat.min m n))) (H.put l (.row (laid cs o' (ys.take (Nat.min m n * sz))) true))) : Res P o Q E H := by
  rw [ho]
  refine mk_one ?_
  simp only [arun]
  refine copy_eff hx hy hm hg hle h1 ?_
  refine ⟨.inl rfl, ?_⟩
  simp only [amix]
  exact h
theorem src_part {get : Nat → Option HB} {sz l o' n cap : Nat} {cs : List AV} {wr : Bool} (hg : get l = some (.row cs wr)) (hn : n ≠ 0) (h : o' + n * sz ≤ cs.length) : srcCells get sz (.slice l o' n cap sz) = some ((cs.drop o').take (n * sz), n) := by
  simp only [srcCells]
  rw [if_pos trivial, if_neg hn, hg]
  simp only []
  rw [if_pos h]
end
end Go.Ab
namespace Go.Ab
theorem flat_len_z {z : Nat} : ∀ {ms : List (List AV)}, (∀ m ∈ ms, m.length = z) → ms.flatten.length = ms.length * z
  | [], _ => by simp
  | m :: ms, h => by
    rw [List.flatten_cons, List.length_append, flat_len_z (fun x hx => h x (List.mem_cons_of_mem _ hx)), h m (by simp), List.length_cons, Nat.succ_mul]
    omega
theorem flat_take_z {z : Nat} {ms : List (List AV)} (h : ∀ m ∈ ms, m.length = z) (i : Nat) (hi : i ≤ ms.length) : ms.flatten.take (i * z) = (ms.take i).flatten := by
  have e : ms.flatten = (ms.take i).flatten ++ (ms.drop i).flatten := by rw [← List.flatten_append, List.take_append_drop]
  have hl : (ms.take i).flatten.length = i * z := by
    rw [flat_len_z (fun m hm => h m (List.mem_of_mem_take hm)), List.length_take, Nat.min_eq_left hi]
  rw [e, List.take_left' hl]
theorem flat_drop_z {z : Nat} {ms : List (List AV)} (h : ∀ m ∈ ms, m.length = z) (i : Nat) (hi : i ≤ ms.length) : ms.flatten.drop (i * z) = (ms.drop i).flatten := by
  have e : ms.flatten = (ms.take i).flatten ++ (ms.drop i).flatten := by rw [← List.flatten_append, List.take_append_drop]
  have hl : (ms.take i).flatten.length = i * z := by
    rw [flat_len_z (fun m hm => h m (List.mem_of_mem_take hm)), List.length_take, Nat.min_eq_left hi]
  rw [e, List.drop_left' hl]
theorem flat_ins_z {z : Nat} {ms : List (List AV)} (h : ∀ m ∈ ms, m.length = z) (m : List AV) (i : Nat) (hi : i ≤ ms.length) : ms.flatten.take (i * z) ++ m ++ ms.flatten.drop (i * z) = (ms.take i ++ [m] ++ ms.drop i).flatten := by
  rw [flat_take_z h i hi, flat_drop_z h i hi]
  simp
section
variable {F R Z m : List AV} {n i z : Nat}
theorem mul_parts (h : i ≤ n) : ∃ q, n * z = i * z + q ∧ (n - i) * z = q := ⟨(n - i) * z, by rw [← Nat.add_mul]; congr 1; omega, rfl⟩
/-- What is shifted up. -/
theorem shift_src (hF : F.length = n * z) (hi : i < n) : (((F ++ R).drop (i * z)).take ((n + 1 - i) * z)).take (Nat.min (n + 1 - i) (n + 1 - (i + 1)) * z) = F.drop (i * z) := by
  obtain ⟨q, h1, h2⟩ := mul_parts (z := z) (Nat.le_of_lt hi)
  have hmin : Nat.min (n + 1 - i) (n + 1 - (i + 1)) = n - i := by show min _ _ = _; omega
  rw [hmin, List.take_take, Nat.min_eq_left (Nat.mul_le_mul_right z (by omega)), h2]
  rw [List.drop_append_of_le_length (by omega), List.take_left' (by rw [List.length_drop]; omega)]
theorem shift_src2 (hF : F.length = n * z) (hi : i < n) : ((F.drop (i * z)).take ((n - i) * z)).take (Nat.min (n - i) (n + 1 - (i + 1)) * z) = F.drop (i * z) := by
  obtain ⟨q, h1, h2⟩ := mul_parts (z := z) (Nat.le_of_lt hi)
  have hmin : Nat.min (n - i) (n + 1 - (i + 1)) = n - i := by show min _ _ = _; omega
  rw [hmin, List.take_take, Nat.min_self, h2, List.take_of_length_le (by rw [List.length_drop]; omega)]
theorem shift_room (hF : F.length = n * z) (hR : R.length = z) (hm : m.length = z) (hi : i < n) : laid (laid (F ++ R) ((i + 1) * z) (F.drop (i * z))) (i * z) m = F.take (i * z) ++ m ++ F.drop (i * z) := by
  obtain ⟨q, h1, h2⟩ := mul_parts (z := z) (Nat.le_of_lt hi)
  have h3 : (i + 1) * z = i * z + z := Nat.succ_mul i z
  have h4 : (n + 1) * z = n * z + z := Nat.succ_mul n z
  have h5 : (i + 1) * z ≤ n * z := Nat.mul_le_mul_right z hi
  unfold laid
  have hd : (F.drop (i * z)).length = q := by rw [List.length_drop]; omega
  have e1 : (F ++ R).take ((i + 1) * z) = F.take (i * z) ++ (F.drop (i * z)).take z := by
    rw [List.take_append_of_le_length (by omega), h3, List.take_add]
  have e2 : (F ++ R).drop ((i + 1) * z + (F.drop (i * z)).length) = [] := List.drop_eq_nil_of_le (by rw [List.length_append]; omega)
  rw [e1, e2, List.append_nil]
  have ht : (F.take (i * z)).length = i * z := by rw [List.length_take]; omega
  have hz : ((F.drop (i * z)).take z).length = z := by rw [List.length_take]; omega
  have t1 : (F.take (i * z) ++ (F.drop (i * z)).take z ++ F.drop (i * z)).take (i * z) = F.take (i * z) := by rw [List.append_assoc, List.take_left' ht]
  have t2 : (F.take (i * z) ++ (F.drop (i * z)).take z ++ F.drop (i * z)).drop (i * z + m.length) = F.drop (i * z) := List.drop_left' (by rw [List.length_append]; omega)
  rw [t1, t2]
theorem shift_grow (hF : F.length = n * z) (hZ : Z.length = (n + 1 - i) * z) (hm : m.length = z) (hi : i < n) : laid (laid (F.take (i * z) ++ Z) (i * z) m) ((i + 1) * z) (F.drop (i * z)) = F.take (i * z) ++ m ++ F.drop (i * z) := by
  obtain ⟨q, h1, h2⟩ := mul_parts (z := z) (Nat.le_of_lt hi)
  have h3 : (i + 1) * z = i * z + z := Nat.succ_mul i z
  have h6 : (n + 1 - i) * z = q + z := by rw [show n + 1 - i = (n - i) + 1 by omega, Nat.succ_mul]; omega
  unfold laid
  have hd : (F.drop (i * z)).length = q := by rw [List.length_drop]; omega
  have ht : (F.take (i * z)).length = i * z := by rw [List.length_take]; omega
  rw [List.take_left' ht, List.drop_append, List.take_left' (by rw [List.length_append]; omega)]
  have e2 : (F.take (i * z) ++ m ++ (List.drop (i * z + m.length) (F.take (i * z)) ++ List.drop (i * z + m.length - (F.take (i * z)).length) Z)).drop ((i + 1) * z + (F.drop (i * z)).length) = [] := by
    apply List.drop_eq_nil_of_le
    simp only [List.length_append, List.length_drop, List.length_take]
    omega
  rw [e2, List.append_nil]
end
theorem SlF.row {H : AHeap} {z : Nat} {ms : List (List AV)} {l o n c : Nat} (h : SlF H z ms (.slice l o n c z)) : H.get l = some (.row ms.flatten true) := by cases h with | sl hg _ _ => exact hg
theorem OnlyS.trans' {S : AV} {A B C : AHeap} (h : OnlyS S A B) (k : OnlyS S B C) : OnlyS S A C := ⟨Nat.le_trans h.next k.next, fun l hl hn => (k.get l (Nat.lt_of_lt_of_le hl h.next) hn).trans (h.get l hl hn)⟩
theorem FromS.mono {a b : Nat} {S S' : AV} (h : FromS b S S') (hab : a ≤ b) : FromS a S S' := ⟨fun l hl => (h.at_ l hl).imp (fun x => Nat.le_trans hab x) id⟩
end Go.Ab
end
/- A row and a slice that change together; parts of lists as sources of appends. -/
section
namespace Go.Ab
/-- A row, as a slice. -/
abbrev PT (p : Nat) : AV := .slice p 0 0 0 1
theorem Only2.refl (S T : AV) (H : AHeap) : Only2 S T H H := ⟨Nat.le_refl _, fun _ _ _ _ => rfl⟩
theorem Only2.trans {S T : AV} {A B C : AHeap} (h : Only2 S T A B) (k : OnlyS T B C) : Only2 S T A C := ⟨Nat.le_trans h.next k.next, fun l hl h1 h2 => (k.get l (Nat.lt_of_lt_of_le hl h.next) h2).trans (h.get l hl h1 h2)⟩
def OwnM (p : Nat) (H : AHeap) : List Win → Prop
  | [] => True
  | w :: ws => (w.l = p ∨ H.next ≤ w.l) ∧ OwnM p H ws
theorem OwnM.get {p : Nat} {H : AHeap} : ∀ {ws : List Win}, OwnM p H ws → ∀ (j l b : Nat), (winLs ws)[j]? = some (l, b) → l = p ∨ H.next ≤ l
  | [], _, j, l, b, e => by simp [winLs] at e
  | w :: ws, h, 0, l, b, e => by simp [winLs] at e; rw [← e.1]; exact h.1
  | w :: ws, h, j + 1, l, b, e => by
    simp only [winLs, List.map_cons, List.getElem?_cons_succ] at e
    exact OwnM.get h.2 j l b e
theorem only2_own {p : Nat} {S : AV} {H H1 H2 : AHeap} {f : Nat} {ws : List Win} (hg : Only2 (PT p) S H H1) (hk : Kept f (winLs ws) H1 H2) (hn : OwnM p H (ws.drop f)) : Only2 (PT p) S H H2 :=
  ⟨Nat.le_trans hg.next hk.1, fun l hl h1 h2 => by
    rw [hk.2 l (Nat.lt_of_lt_of_le hl hg.next) fun j b hj e => ?_]
    · exact hg.get l hl h1 h2
    · have h := OwnM.get hn (j - f) l b (by
        rw [winLs, List.map_drop, List.getElem?_drop, show f + (j - f) = j by omega]; exact e)
      rcases h with h | h
      · subst h; exact h1 ⟨_, _, _, _, rfl⟩
      · omega⟩
section
variable {P : Program} {o : Pt} {d : Option Nat} {n : Nat} {x y : Opd} {Q : AExit → Env → AHeap → Prop} {E : Env} {H : AHeap} {S : AV} {sz k l cap : Nat} {ms : List (List AV)} {m' : List AV}
theorem ar_storeSF {rest : List AOper} {K : Env → AHeap → Prop} (hS : SlF H sz ms S) (hE : S = .slice l 0 ms.length cap sz) (hx : x.ev E = .ptr l (k * sz)) (hk : k < ms.length) (hm : ∀ m ∈ ms, m.length = sz) (hy : (y.ev E).cells = some m') (hn : m'.length = n) (hz : n = sz) (h1 : m'.all AV.one = true)
    (h : ∀ H', SlF H' sz (ms.set k m') S → OnlyS S H H' → arun P rest (E.put d .undef) H' K) : arun P (⟨d, .store n x y, none⟩ :: rest) E H K := by
  subst hE
  cases hS with
  | sl hg hn2 hc =>
    have hg' : H.get l = some (.row (ms.flatten ++ []) true) := by simpa using hg
    refine ar_store hx hg' hy hn (by rw [hz]; exact flat_room hm hk []) h1 rfl ?_
    rw [flat_set hm hk (by omega), List.append_nil]
    refine h _ ?_ (.of_only ((Only.refl l H).put _))
    exact .sl (put_at hg) (by simp) hc
theorem res_storeSFK (ho : o = .kids (.cons true ⟨d, .store n x y, none⟩ (.node (kQs o) (kKids o)) .nil) (ptFr o)) (hS : SlF H sz ms S) (hE : S = .slice l 0 ms.length cap sz) (hx : x.ev E = .ptr l (k * sz)) (hk : k < ms.length) (hm : ∀ m ∈ ms, m.length = sz) (hy : (y.ev E).cells = some m') (hn : m'.length = n) (hz : n = sz) (h1 : m'.all AV.one = true)
    (h : ∀ H', SlF H' sz (ms.set k m') S → OnlyS S H H' → Res P (.mixq (kQs o) (kKids o) (ptFr o)) Q (E.put d .undef) H') : Res P o Q E H := by
  rw [ho]
  refine mk_one (ar_storeSF hS hE hx hk hm hy hn hz h1 fun H' a b => ?_)
  refine ar_nil ⟨.inl rfl, ?_⟩
  simp only [amix]
  exact h H' a b
end
/-- A part of a list, to be appended. -/
structure PartS (H : AHeap) (z : Nat) (ys : List (List AV)) (V : AV) : Prop where
  one : V.one = true
  src : ∀ H', Grew H H' → srcCells H'.get z V = some (ys.flatten, ys.length)
theorem sub_list {H : AHeap} {z : Nat} {ms : List (List AV)} {S : AV} (hm : ∀ m ∈ ms, m.length = z) (hS : SlL H z ms S) (a b : Nat) (hab : a ≤ b) (hb : b ≤ ms.length) : ∃ V, PartS H z ((ms.take b).drop a) V ∧
    ∀ (E : Env) (H' : AHeap) (t : Nat) (lo hi : Option Opd), E t = S → (lo.map (fun x : Opd => x.ev E) = none ∧ a = 0 ∨ lo.map (fun x : Opd => x.ev E) = some (.int .i64 (a : Int))) → (hi.map (fun x : Opd => x.ev E) = none ∧ b = ms.length ∨ hi.map (fun x : Opd => x.ev E) = some (.int .i64 (b : Int))) → aval E H'.get (.slSl z (.tmp t) lo hi none) = some V := by
  cases hS with
  | nil h =>
    subst h
    obtain rfl : b = 0 := by simpa using hb
    obtain rfl : a = 0 := by omega
    refine ⟨.nilslice, ⟨rfl, fun H' _ => rfl⟩, fun E H' t lo hi hE hlo hhi => ?_⟩
    show (match E t with
      | .slice l o len cap sz' => if z = sz' then
          match bnds len cap (lo.map (fun x : Opd => x.ev E)) (hi.map (fun x : Opd => x.ev E)) none with
          | some (a, h, m) => some (AV.slice l (o + a * z) (h - a) (m - a) z)
          | none => none
        else none
      | .nilslice => match bnds 0 0 (lo.map (fun x : Opd => x.ev E)) (hi.map (fun x : Opd => x.ev E)) none with
        | some _ => some .nilslice
        | none => none
      | _ => none) = _
    rw [hE]
    simp only []
    have e2 : bnd (hi.map (fun x : Opd => x.ev E)) 0 0 = some 0 := by
      rcases hhi with ⟨h1, _⟩ | h1
      · rw [h1]; rfl
      · rw [h1]; rfl
    have e3 : bnd (lo.map (fun x : Opd => x.ev E)) 0 0 = some 0 := by
      rcases hlo with ⟨h1, _⟩ | h1
      · rw [h1]; rfl
      · rw [h1]; rfl
    have : bnds 0 0 (lo.map (fun x : Opd => x.ev E)) (hi.map (fun x : Opd => x.ev E)) none = some (0, 0, 0) := by
      unfold bnds
      simp only []
      rw [show bnd none 0 0 = some 0 from rfl]
      simp only []
      rw [e2]
      simp only []
      rw [e3]
    rw [this]
  | @sl l n cap rest wr hg hn hc =>
    subst hn
    have hlen := flat_len_z hm
    have hys : ((ms.take b).drop a).length = b - a := by rw [List.length_drop, List.length_take]; omega
    have hys2 : ((ms.take b).drop a).flatten = ((ms.flatten ++ rest).drop (a * z)).take ((b - a) * z) := by
      have h1 : (ms.take b).flatten = ms.flatten.take (b * z) := (flat_take_z hm b hb).symm
      have h2 : ((ms.take b).drop a).flatten = (ms.take b).flatten.drop (a * z) := (flat_drop_z (fun m h => hm m (List.mem_of_mem_take h)) a (by rw [List.length_take]; omega)).symm
      have h3 : a * z ≤ b * z := Nat.mul_le_mul_right z hab
      have h4 : b * z ≤ ms.length * z := Nat.mul_le_mul_right z hb
      rw [h2, h1, List.drop_take, ← Nat.sub_mul, List.drop_append_of_le_length (by omega), List.take_append_of_le_length (by rw [List.length_drop, Nat.sub_mul]; omega)]
    refine ⟨.slice l (a * z) (b - a) (cap - a) z, ⟨rfl, fun H' g => ?_⟩, fun E H' t lo hi hE hlo hhi => ?_⟩
    · by_cases h0 : b - a = 0
      · have : (ms.take b).drop a = [] := List.eq_nil_of_length_eq_zero (by omega)
        rw [this, h0]
        simp [srcCells]
      · have h3 : (a + (b - a)) * z ≤ ms.length * z := Nat.mul_le_mul_right z (by omega)
        rw [Nat.add_mul] at h3
        rw [src_part (g.at hg) h0 (by rw [List.length_append]; omega), hys2, hys]
    · have := sub_val (H := H') (a := a) (b := b) hE hlo hhi hab (by omega)
      simpa using this
end Go.Ab
end
