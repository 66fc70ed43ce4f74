/- Floats: bounds of results; narrowing. -/
import Derived.Test.YtcmoeocemmeofaaSxA
import Derived.Test.YtcmoeocemmeofaaAbD
import Derived.Test.YtcmoeocemmeofaaSxD
import Derived.Test.YtcmoeocemmeofaaSxC
set_option linter.unusedVariables false
set_option linter.unusedSimpArgs false
section
namespace Go.Ab
open Ieee
/-- What is not too great is written in single precision as a number. -/
theorem f32_fin {s : Bool} {m : Nat} {e : Int} (h : LeP m e 126) : (FloatKind.f32.decode (FloatKind.f32.encode (.number s m e))).isInfinity = false := by
  have hb : Format.binade single = 8388608 := rfl
  have hi : Format.infRung single = 2139095040 := rfl
  have hl : Format.leastPlace single = -149 := rfl
  have hf : single.fractionBits = 23 := rfl
  show (Format.read single (Format.nearest single s m e)).isInfinity = false
  by_cases h0 : m = 0
  · subst h0
    show (Format.read single (single.word s 0)).isInfinity = false
    cases s <;> decide +kernel
  · have hlog := h.log h0
    have hhi : m < 2 ^ (m.log2 + 1) := Nat.lt_log2_self
    obtain ⟨L, hL⟩ : ∃ L : Int, L = max (e + m.log2 - 23) (-149) := ⟨_, rfl⟩
    obtain ⟨kept, hk⟩ : ∃ kept, kept = Toward.even.cut s (m <<< (e - L).toNat) (L - e).toNat := ⟨_, rfl⟩
    have hkle : kept ≤ 2 ^ 24 := by
      rw [hk]
      refine cut_le ?_
      rw [Nat.shiftLeft_eq]
      have h1 : m * 2 ^ (e - L).toNat ≤ 2 ^ (m.log2 + 1 + (e - L).toNat) := by
        rw [Nat.pow_add]; exact Nat.mul_le_mul_right _ (Nat.le_of_lt hhi)
      refine Nat.le_trans h1 ?_
      rw [← Nat.pow_add]
      refine Nat.pow_le_pow_right (by decide) ?_
      omega
    simp only [Nat.reducePow] at hkle
    have hr : (L + 149).toNat * 8388608 + kept < 2139095040 := by omega
    have hw : Format.nearest single s m e = single.word s ((L + 149).toNat * 8388608 + kept) := by
      unfold Format.nearest
      rw [if_neg h0]
      simp only [hf, hl, hb, hi]
      rw [show max (e + (m.log2 : Int) - ((23 : Nat) : Int)) (-149) = L from hL.symm, ← hk, show L - -149 = L + 149 by omega]
      rw [Nat.min_eq_left (Nat.le_of_lt hr)]
    rw [hw, read_num single s (by rw [hi]; exact hr)]
    split <;> rfl
/-- A double that is a number of at most 2 ^ b. -/
def Bnd (x : Option Nat) (b : Nat) : Prop := ∃ w s m e, x = some w ∧ w < 2 ^ 64 ∧ FloatKind.f64.decode w = .number s m e ∧ LeP m e b
theorem Bnd.mono {x : Option Nat} {b c : Nat} (h : Bnd x b) (hc : b ≤ c) : Bnd x c := by
  obtain ⟨w, s, m, e, h1, h2, h3, h4⟩ := h
  exact ⟨w, s, m, e, h1, h2, h3, h4.mono hc⟩
theorem Bnd.ok {x : Option Nat} {b : Nat} (h : Bnd x b) : fOk .f64 x := by
  obtain ⟨w, s, m, e, rfl, h2, h3, h4⟩ := h
  intro c hc
  cases hc
  exact ⟨h2, by rw [h3]; rfl⟩
/-- A number that is not too great, written. -/
theorem Bnd.of {s : Bool} {m : Nat} {e : Int} {b : Nat} (h : LeP m e b) (hb : b ≤ 1022) : Bnd (some (FloatKind.f64.encode (.number s m e))) b := by
  obtain ⟨m', e', h1, h2, _⟩ := write_le (s := s) h hb
  exact ⟨_, s, m', e', rfl, FloatKind.f64.format.write_lt _, h1, h2⟩
/-- Narrowing gives a number. -/
theorem Bnd.narrow {x : Option Nat} {b : Nat} (h : Bnd x b) (hb : b ≤ 126) : ∃ y, f2f .f64 x .f32 = some y ∧ fOk .f32 y := by
  obtain ⟨w, s, m, e, rfl, h2, h3, h4⟩ := h
  have hf := f32_fin (s := s) (h4.mono hb)
  refine ⟨some (FloatKind.f32.encode (.number s m e)), ?_, ?_⟩
  · show (floatToFloatBits .f64 w .f32).map some = _
    unfold floatToFloatBits
    rw [if_neg (by decide), h3]
    simp only []
    rw [hf]; rfl
  · intro c hc
    cases hc
    exact ⟨FloatKind.f32.format.write_lt _, (nrm_some (nrm_write .f32 (d := .number _ _ _) rfl)).2⟩
theorem LeP.prod {m n : Nat} {i j : Int} {a b : Nat} (h : LeP m i a) (k : LeP n j b) : LeP (m * n) (i + j) (a + b) := by
  have h1 := h (-i).toNat (by omega)
  have k1 := k (-j).toNat (by omega)
  refine lep_of (K := (-i).toNat + (-j).toNat) (by omega) ?_
  unfold V at *
  have e1 : (i + j + (((-i).toNat + (-j).toNat : Nat) : Int)).toNat = (i + ((-i).toNat : Int)).toNat + (j + ((-j).toNat : Int)).toNat := by omega
  rw [e1, Nat.pow_add, show m * n * (2 ^ (i + ((-i).toNat : Int)).toNat * 2 ^ (j + ((-j).toNat : Int)).toNat) = (m * 2 ^ (i + ((-i).toNat : Int)).toNat) * (n * 2 ^ (j + ((-j).toNat : Int)).toNat) by
    rw [Nat.mul_mul_mul_comm]]
  refine Nat.le_trans (Nat.mul_le_mul h1 k1) ?_
  rw [← Nat.pow_add]
  exact Nat.pow_le_pow_right (by decide) (by omega)
theorem Bnd.mul {x y : Option Nat} {a b : Nat} (h : Bnd x a) (k : Bnd y b) (hab : a + b ≤ 1022) : Bnd (fop .mul .f64 x y) (a + b) := by
  obtain ⟨w, s, m, i, rfl, h2, h3, h4⟩ := h
  obtain ⟨v, t, n, j, rfl, k2, k3, k4⟩ := k
  have : fop .mul .f64 (some w) (some v) = some (FloatKind.f64.encode (.number (s ^^ t) (m * n) (i + j))) := by
    show ((Format.read _ w).product (Format.read _ v)).map _ = _
    rw [show Format.read FloatKind.f64.format w = .number s m i from h3, show Format.read FloatKind.f64.format v = .number t n j from k3]
    rfl
  rw [this]
  exact Bnd.of (h4.prod k4) hab
theorem signed_abs (s : Bool) (m k : Nat) : (signed s m k).natAbs = m * 2 ^ k := by
  unfold signed
  cases s
  · exact (Int.natAbs_natCast _).trans (Nat.shiftLeft_eq _ _)
  · exact (Int.natAbs_neg _).trans ((Int.natAbs_natCast _).trans (Nat.shiftLeft_eq _ _))
theorem LeP.summ {s t : Bool} {m n : Nat} {i j : Int} {a b c : Nat} (h : LeP m i a) (k : LeP n j b) (ha : a < c) (hb : b < c) : LeP (signed s m (i - min i j).toNat + signed t n (j - min i j).toNat).natAbs (min i j) c := by
  obtain ⟨K, hK⟩ : ∃ K : Nat, K = (-i).toNat + (-j).toNat := ⟨_, rfl⟩
  have h1 := h K (by omega)
  have k1 := k K (by omega)
  refine lep_of (K := K) (by omega) ?_
  unfold V at *
  have e := Int.natAbs_add_le (signed s m (i - min i j).toNat) (signed t n (j - min i j).toNat)
  rw [signed_abs, signed_abs] at e
  refine Nat.le_trans (Nat.mul_le_mul_right _ e) ?_
  rw [Nat.add_mul, Nat.mul_assoc, Nat.mul_assoc, ← Nat.pow_add, ← Nat.pow_add, show (i - min i j).toNat + (min i j + (K : Int)).toNat = (i + K).toNat by omega, show (j - min i j).toNat + (min i j + (K : Int)).toNat = (j + K).toNat by omega]
  have p1 : 2 ^ (a + K) ≤ 2 ^ (c - 1 + K) := Nat.pow_le_pow_right (by decide) (by omega)
  have p2 : 2 ^ (b + K) ≤ 2 ^ (c - 1 + K) := Nat.pow_le_pow_right (by decide) (by omega)
  have p3 : 2 ^ (c + K) = 2 ^ (c - 1 + K) * 2 := by rw [← Nat.pow_succ]; congr 1; omega
  omega
theorem Bnd.sub {x y : Option Nat} {a b c : Nat} (h : Bnd x a) (k : Bnd y b) (ha : a < c) (hb : b < c) (hc : c ≤ 1022) : Bnd (fop .sub .f64 x y) c := by
  obtain ⟨w, s, m, i, rfl, h2, h3, h4⟩ := h
  obtain ⟨v, t, n, j, rfl, k2, k3, k4⟩ := k
  have : fop .sub .f64 (some w) (some v) = some (FloatKind.f64.encode (.number (if signed s m (i - min i j).toNat + signed (!t) n (j - min i j).toNat = 0 then s && !t else signed s m (i - min i j).toNat + signed (!t) n (j - min i j).toNat < 0) (signed s m (i - min i j).toNat + signed (!t) n (j - min i j).toNat).natAbs (min i j))) := by
    show ((Format.read _ w).sum (Format.read _ v).opposite).map _ = _
    rw [show Format.read FloatKind.f64.format w = .number s m i from h3, show Format.read FloatKind.f64.format v = .number t n j from k3]
    rfl
  rw [this]
  exact Bnd.of (h4.summ k4 ha hb) hc
theorem Bnd.add {x y : Option Nat} {a b c : Nat} (h : Bnd x a) (k : Bnd y b) (ha : a < c) (hb : b < c) (hc : c ≤ 1022) : Bnd (fop .add .f64 x y) c := by
  obtain ⟨w, s, m, i, rfl, h2, h3, h4⟩ := h
  obtain ⟨v, t, n, j, rfl, k2, k3, k4⟩ := k
  have : fop .add .f64 (some w) (some v) = some (FloatKind.f64.encode (.number (if signed s m (i - min i j).toNat + signed t n (j - min i j).toNat = 0 then s && t else signed s m (i - min i j).toNat + signed t n (j - min i j).toNat < 0) (signed s m (i - min i j).toNat + signed t n (j - min i j).toNat).natAbs (min i j))) := by
    show ((Format.read _ w).sum (Format.read _ v)).map _ = _
    rw [show Format.read FloatKind.f64.format w = .number s m i from h3, show Format.read FloatKind.f64.format v = .number t n j from k3]
    rfl
  rw [this]
  exact Bnd.of (h4.summ k4 ha hb) hc
/-- Dividing by a number that is at least 1. -/
theorem Bnd.quo {x : Option Nat} {a v n : Nat} {t : Bool} {j : Int} (h : Bnd x a) (k3 : FloatKind.f64.decode v = .number t n j) (hn : n ≠ 0) (h1 : ∀ K : Nat, 0 ≤ j + K → 2 ^ K ≤ n * 2 ^ (j + K).toNat) (ha : a + 1 ≤ 1022) : Bnd (fop .quo .f64 x (some v)) (a + 1) := by
  obtain ⟨w, s, m, i, rfl, h2, h3, h4⟩ := h
  obtain ⟨more, hmore⟩ : ∃ more, more = 54 + n.log2 - m.log2 := ⟨_, rfl⟩
  have : fop .quo .f64 (some w) (some v) = some (FloatKind.f64.encode (.number (s ^^ t) (2 * (m <<< more / n) + (m <<< more % n != 0).toNat) (i - j - more - 1))) := by
    show ((Format.read _ w).quotient _ (Format.read _ v)).map _ = _
    rw [show Format.read FloatKind.f64.format w = .number s m i from h3, show Format.read FloatKind.f64.format v = .number t n j from k3]
    show (if n = 0 then _ else _ : Option Datum).map _ = _
    rw [if_neg hn, hmore]
    rfl
  rw [this]
  refine Bnd.of ?_ ha
  obtain ⟨K1, hK1⟩ : ∃ K1 : Nat, K1 = (-(i - j - more - 1)).toNat := ⟨_, rfl⟩
  obtain ⟨K2, hK2⟩ : ∃ K2 : Nat, K2 = (-j).toNat + (-(i - more - 1)).toNat + (-i).toNat := ⟨_, rfl⟩
  refine lep_of (K := K1) (by omega) ?_
  unfold V
  have hv := h4 (K1 + K2) (by omega)
  unfold V at hv
  have hd := h1 K2 (by omega)
  have hdm := Nat.div_mul_le_self (m <<< more) n
  rw [Nat.shiftLeft_eq] at hdm ⊢
  by_cases h0 : m = 0
  · subst h0
    simp
  · -- at least one whole
    have hq : 1 ≤ m * 2 ^ more / n := by
      rw [Nat.le_div_iff_mul_le (Nat.pos_of_ne_zero hn), Nat.one_mul]
      have e1 : n < 2 ^ (n.log2 + 1) := Nat.lt_log2_self
      have e2 : 2 ^ m.log2 ≤ m := Nat.log2_self_le h0
      have e3 : 2 ^ (n.log2 + 1) ≤ 2 ^ (m.log2 + more) := Nat.pow_le_pow_right (by decide) (by omega)
      have e4 : 2 ^ m.log2 * 2 ^ more ≤ m * 2 ^ more := Nat.mul_le_mul_right _ e2
      rw [← Nat.pow_add] at e4
      omega
    have hb : (m * 2 ^ more % n != 0).toNat ≤ 1 := by cases (m * 2 ^ more % n != 0) <;> decide
    obtain ⟨q, hqe⟩ : ∃ q, q = m * 2 ^ more / n := ⟨_, rfl⟩
    obtain ⟨r, hre⟩ : ∃ r, r = 2 * q + (m * 2 ^ more % n != 0).toNat := ⟨_, rfl⟩
    rw [← hqe] at hq hdm
    rw [← hqe, ← hre]
    have hr4 : r ≤ 4 * q := by omega
    -- r * n * 2 ^ .. against m
    have key : r * 2 ^ (i - j - more - 1 + (K1 : Int)).toNat * (n * 2 ^ (j + (K2 : Int)).toNat) ≤ 2 ^ (a + 1 + K1) * 2 ^ K2 := by
      have e1 : r * 2 ^ (i - j - more - 1 + (K1 : Int)).toNat * (n * 2 ^ (j + (K2 : Int)).toNat) = (r * n) * 2 ^ (i - more - 1 + (K1 : Int) + (K2 : Int)).toNat := by
        rw [Nat.mul_mul_mul_comm, ← Nat.pow_add]
        congr 2; omega
      rw [e1]
      have e2 : r * n ≤ 4 * (m * 2 ^ more) := by
        refine Nat.le_trans (Nat.mul_le_mul_right n hr4) ?_
        rw [Nat.mul_assoc]
        exact Nat.mul_le_mul_left 4 hdm
      refine Nat.le_trans (Nat.mul_le_mul_right _ e2) ?_
      have e3 : 4 * (m * 2 ^ more) * 2 ^ (i - more - 1 + (K1 : Int) + (K2 : Int)).toNat = 2 * (m * 2 ^ (i + ((K1 + K2 : Nat) : Int)).toNat) := by
        have e4 : 2 ^ more * 2 ^ (i - more - 1 + (K1 : Int) + (K2 : Int)).toNat * 2 = 2 ^ (i + ((K1 + K2 : Nat) : Int)).toNat := by
          rw [← Nat.pow_add, ← Nat.pow_succ]; congr 1; omega
        rw [← e4]
        generalize 2 ^ more = A
        generalize 2 ^ (i - more - 1 + (K1 : Int) + (K2 : Int)).toNat = B
        have x1 : 4 * (m * A) * B = 4 * (m * (A * B)) := by rw [Nat.mul_assoc 4, Nat.mul_assoc m]
        have x2 : m * (A * B * 2) = m * (A * B) * 2 := (Nat.mul_assoc _ _ _).symm
        rw [x1, x2]
        omega
      rw [e3, ← Nat.pow_add]
      have e5 : 2 ^ (a + 1 + K1 + K2) = 2 * 2 ^ (a + (K1 + K2)) := by rw [← Nat.pow_succ']; congr 1; omega
      rw [e5]
      exact Nat.mul_le_mul_left 2 hv
    have : r * 2 ^ (i - j - more - 1 + (K1 : Int)).toNat * 2 ^ K2 ≤ 2 ^ (a + 1 + K1) * 2 ^ K2 := Nat.le_trans (Nat.mul_le_mul_left _ hd) key
    exact Nat.le_of_mul_le_mul_right this (Nat.two_pow_pos K2)
end Go.Ab
end
/- Floats: square roots are not too great. -/
section
namespace Go.Ab
open Ieee
end Go.Ab
end
/- Floats: exact writing; integral values; angles without whole turns. -/
section
namespace Go.Ab
open Ieee
end Go.Ab
end
/- Floats: sines, cosines, angles without whole turns: values and bounds. -/
section
namespace Go.Ab
open Ieee
theorem negF_dec {w m : Nat} {s : Bool} {e : Int} (h : FloatKind.f64.decode w = .number s m e) : FloatKind.f64.decode (Op.negFloat .f64 w) = .number (!s) m e := by
  have hx : Op.negFloat .f64 w = w ^^^ 2 ^ 63 := rfl
  have hs : Format.signWeight FloatKind.f64.format = 2 ^ 63 := rfl
  have hr : (w ^^^ 2 ^ 63) % 2 ^ 63 = w % 2 ^ 63 := by
    rw [Nat.xor_mod_two_pow, Nat.mod_self, Nat.xor_zero]
  have hb : ((w ^^^ 2 ^ 63) / 2 ^ 63 % 2 == 1) = !(w / 2 ^ 63 % 2 == 1) := by
    have t := Nat.testBit_xor w (2 ^ 63) 63
    rw [Nat.testBit_two_pow_self, Nat.testBit_eq_decide_div_mod_eq, Nat.testBit_eq_decide_div_mod_eq, Bool.xor_true] at t
    exact t
  rw [hx]
  have h : Format.read FloatKind.f64.format w = .number s m e := h
  show Format.read FloatKind.f64.format (w ^^^ 2 ^ 63) = _
  unfold Format.read at h ⊢
  simp only [hs] at h ⊢
  rw [hr, hb]
  split at h
  · rename_i h1; rw [if_pos h1]; cases h; rfl
  · rename_i h1
    rw [if_neg h1]
    split at h
    · rename_i h2; rw [if_pos h2]; cases h; rfl
    · split at h <;> cases h
theorem Bnd.neg {x : Option Nat} {b : Nat} (h : Bnd x b) : Bnd (negA .f64 x) b := by
  obtain ⟨w, s, m, e, rfl, h2, h3, h4⟩ := h
  exact ⟨_, !s, m, e, rfl, Nat.xor_lt_two_pow h2 (by decide), negF_dec h3, h4⟩
theorem Bnd.lit {w : Nat} {b : Nat} (h : w < 2 ^ 64) {s : Bool} {m : Nat} {e : Int} (hd : FloatKind.f64.decode w = .number s m e) {K : Nat} (hK : 0 ≤ e + K) (hv : V m e K ≤ 2 ^ (b + K)) : Bnd (some w) b := ⟨w, s, m, e, rfl, h, hd, lep_of hK hv⟩
end Go.Ab
end
/- Floats: absolute values, limits, quotients that are numbers, integers out of floats. -/
section
namespace Go.Ab
open Ieee
end Go.Ab
end
/- Floats: nought and a number; products in either order. -/
section
namespace Go.Ab
open Ieee
end Go.Ab
end
/- Floats: signs; numbers that are equal. -/
section
namespace Go.Ab
open Ieee
end Go.Ab
end
/- Remainders by words that are not literals. -/
section
namespace Go.Ab
end Go.Ab
end
/- Slices without their first element; outcomes that are alike. -/
section
namespace Go.Ab
end Go.Ab
end
/- Distances in a graph: breadth first, and by rounds over the links. -/
section
namespace Go.Ab
def conn (e : Nat × Nat) (u v : Nat) : Prop := (e.1 = u ∧ e.2 = v) ∨ (e.1 = v ∧ e.2 = u)
def nextE (u : Nat) (e : Nat × Nat) : Option Nat := if u = e.1 then some e.2 else if u = e.2 then some e.1 else none
theorem nextE_conn {u v : Nat} {e : Nat × Nat} (h : nextE u e = some v) : conn e u v := by
  unfold nextE at h
  split at h
  · rename_i h1; cases h; exact .inl ⟨h1.symm, rfl⟩
  · split at h
    · rename_i h1; cases h; exact .inr ⟨rfl, h1.symm⟩
    · cases h
theorem conn_nextE {u v : Nat} {e : Nat × Nat} (h : conn e u v) : nextE u e = some v := by
  unfold nextE
  rcases h with ⟨rfl, rfl⟩ | ⟨rfl, rfl⟩
  · rw [if_pos rfl]
  · split
    · rename_i h1; rw [h1]
    · rw [if_pos rfl]
def stepB (p : Nat × Nat) (fl : List (Nat × Nat)) (e : Nat × Nat) : List (Nat × Nat) :=
  match nextE p.1 e with
  | none => fl
  | some v => if v ∈ fl.map Prod.fst then fl else fl ++ [(v, p.2 + 1)]
def rowB (es : List (Nat × Nat)) (p : Nat × Nat) (fl : List (Nat × Nat)) : Nat → List (Nat × Nat)
  | 0 => fl
  | k + 1 => stepB p (rowB es p fl k) (es.getD k (0, 0))
def bfsT (es : List (Nat × Nat)) (a : Nat) : Nat → List (Nat × Nat)
  | 0 => [(a, 0)]
  | k + 1 => match (bfsT es a k)[k]? with
    | none => bfsT es a k
    | some p => rowB es p (bfsT es a k) es.length
theorem bfsT_succ (es : List (Nat × Nat)) (a k : Nat) : bfsT es a (k + 1) = match (bfsT es a k)[k]? with
    | none => bfsT es a k
    | some p => rowB es p (bfsT es a k) es.length := rfl
structure BInv (es : List (Nat × Nat)) (n a : Nat) (fl : List (Nat × Nat)) : Prop where
  nd : (fl.map Prod.fst).Nodup
  lt : ∀ p ∈ fl, p.1 < n
  h0 : fl[0]? = some (a, 0)
  z : ∀ p ∈ fl, p.2 = 0 → p.1 = a
  srt : ∀ (j j' : Nat) (p q : Nat × Nat), j ≤ j' → fl[j]? = some p → fl[j']? = some q → p.2 ≤ q.2
  le : ∀ (j : Nat) (p : Nat × Nat), fl[j]? = some p → p.2 ≤ j
  p1 : ∀ p ∈ fl, ∀ d, p.2 = d + 1 → ∃ u, (u, d) ∈ fl ∧ ∃ e ∈ es, conn e u p.1
theorem get_snoc {α : Type} {l : List α} {x q : α} {j : Nat} (h : (l ++ [x])[j]? = some q) : (j < l.length ∧ l[j]? = some q) ∨ (j = l.length ∧ q = x) := by
  rcases Nat.lt_or_ge j l.length with hj | hj
  · rw [List.getElem?_append_left hj] at h; exact .inl ⟨hj, h⟩
  · rw [List.getElem?_append_right hj] at h
    have h1 : j - l.length = 0 := by
      rcases Nat.eq_zero_or_pos (j - l.length) with h2 | h2
      · exact h2
      · rw [List.getElem?_eq_none (by rw [List.length_singleton]; omega)] at h; cases h
    rw [h1] at h
    refine .inr ⟨by omega, by simpa using h.symm⟩
theorem get_lt {α : Type} {l : List α} {q : α} {j : Nat} (h : l[j]? = some q) : j < l.length := by
  rcases Nat.lt_or_ge j l.length with hj | hj
  · exact hj
  · rw [List.getElem?_eq_none hj] at h; cases h
theorem stepB_inv {es : List (Nat × Nat)} {n a i : Nat} {p : Nat × Nat} {fl : List (Nat × Nat)} (h : BInv es n a fl) (hi : fl[i]? = some p) (ht : ∀ q ∈ fl, q.2 ≤ p.2 + 1) {e : Nat × Nat} (he : e ∈ es) (h1 : e.1 < n) (h2 : e.2 < n) :
    BInv es n a (stepB p fl e) ∧ (stepB p fl e)[i]? = some p ∧ (∀ q ∈ stepB p fl e, q.2 ≤ p.2 + 1) ∧ (∃ t, stepB p fl e = fl ++ t) ∧ ∀ v, nextE p.1 e = some v → v ∈ (stepB p fl e).map Prod.fst := by
  unfold stepB
  split
  · rename_i hn
    exact ⟨h, hi, ht, ⟨[], by simp⟩, fun v hv => by rw [hn] at hv; cases hv⟩
  · rename_i v hn
    split
    · rename_i hm
      exact ⟨h, hi, ht, ⟨[], by simp⟩, fun v' hv => by rw [hn] at hv; cases hv; exact hm⟩
    · rename_i hm
      have hc := nextE_conn hn
      have hv : v < n := by rcases hc with ⟨_, rfl⟩ | ⟨rfl, _⟩ <;> assumption
      have hil := get_lt hi
      refine ⟨⟨?_, ?_, ?_, ?_, ?_, ?_, ?_⟩, ?_, ?_, ⟨[(v, p.2 + 1)], rfl⟩, ?_⟩
      · rw [List.map_append, List.nodup_append]
        refine ⟨h.nd, by simp, ?_⟩
        intro x hx y hy
        simp only [List.map_cons, List.map_nil, List.mem_singleton] at hy
        subst hy
        intro hxy; subst hxy; exact hm hx
      · intro q hq
        rcases List.mem_append.1 hq with hq | hq
        · exact h.lt q hq
        · rw [List.mem_singleton] at hq; subst hq; exact hv
      · rw [List.getElem?_append_left (by omega)]; exact h.h0
      · intro q hq hz
        rcases List.mem_append.1 hq with hq | hq
        · exact h.z q hq hz
        · rw [List.mem_singleton] at hq; subst hq; cases hz
      · intro j j' q q' hj hq hq'
        rcases get_snoc hq' with ⟨hl', hq'⟩ | ⟨hl', rfl⟩
        · rcases get_snoc hq with ⟨hl, hq⟩ | ⟨hl, _⟩
          · exact h.srt j j' q q' hj hq hq'
          · omega
        · rcases get_snoc hq with ⟨hl, hq⟩ | ⟨hl, rfl⟩
          · exact ht q (List.mem_of_getElem? hq)
          · exact Nat.le_refl _
      · intro j q hq
        rcases get_snoc hq with ⟨hl, hq⟩ | ⟨hl, rfl⟩
        · exact h.le j q hq
        · have := h.le i p hi
          show p.2 + 1 ≤ j
          omega
      · intro q hq d hd
        rcases List.mem_append.1 hq with hq | hq
        · obtain ⟨u, h3, h4⟩ := h.p1 q hq d hd
          exact ⟨u, List.mem_append_left _ h3, h4⟩
        · rw [List.mem_singleton] at hq; subst hq
          have hd : d = p.2 := by simp at hd; omega
          subst hd
          exact ⟨p.1, List.mem_append_left _ (List.mem_of_getElem? hi), e, he, hc⟩
      · rw [List.getElem?_append_left hil]; exact hi
      · intro q hq
        rcases List.mem_append.1 hq with hq | hq
        · exact ht q hq
        · rw [List.mem_singleton] at hq; subst hq; exact Nat.le_refl _
      · intro v' hv'
        rw [hn] at hv'; cases hv'
        simp
theorem rowB_inv {es : List (Nat × Nat)} {n a i : Nat} {p : Nat × Nat} {fl : List (Nat × Nat)} (h : BInv es n a fl) (hi : fl[i]? = some p) (ht : ∀ q ∈ fl, q.2 ≤ p.2 + 1) (hes : ∀ e ∈ es, e.1 < n ∧ e.2 < n) : ∀ k, k ≤ es.length →
    BInv es n a (rowB es p fl k) ∧ (rowB es p fl k)[i]? = some p ∧ (∀ q ∈ rowB es p fl k, q.2 ≤ p.2 + 1) ∧ (∃ t, rowB es p fl k = fl ++ t) ∧ ∀ j, j < k → ∀ v, nextE p.1 (es.getD j (0, 0)) = some v → v ∈ (rowB es p fl k).map Prod.fst
  | 0, _ => ⟨h, hi, ht, ⟨[], by simp [rowB]⟩, fun j hj => by omega⟩
  | k + 1, hk => by
    obtain ⟨g1, g2, g3, ⟨t, g4⟩, g5⟩ := rowB_inv h hi ht hes k (by omega)
    have hm : es.getD k (0, 0) ∈ es := by
      rw [List.getD_eq_getElem?_getD, List.getElem?_eq_getElem (by omega : k < es.length)]
      exact List.getElem_mem _
    obtain ⟨k1, k2, k3, ⟨t', k4⟩, k5⟩ := stepB_inv g1 g2 g3 hm (hes _ hm).1 (hes _ hm).2
    refine ⟨k1, k2, k3, ⟨t ++ t', ?_⟩, ?_⟩
    · show stepB p (rowB es p fl k) _ = _
      rw [k4, g4, List.append_assoc]
    · intro j hj v hv
      rcases Nat.lt_or_ge j k with hjk | hjk
      · have := g5 j hjk v hv
        show v ∈ (stepB p (rowB es p fl k) _).map Prod.fst
        rw [k4, List.map_append]
        exact List.mem_append_left _ this
      · obtain rfl : j = k := by omega
        exact k5 v hv
def BClosed (es fl : List (Nat × Nat)) (j : Nat) : Prop := ∀ p, fl[j]? = some p → ∀ e ∈ es, ∀ v, conn e p.1 v → ∃ d, (v, d) ∈ fl ∧ d ≤ p.2 + 1
theorem bfsT_inv {es : List (Nat × Nat)} {n a : Nat} (ha : a < n) (hes : ∀ e ∈ es, e.1 < n ∧ e.2 < n) : ∀ k,
    BInv es n a (bfsT es a k) ∧ (∀ p, (bfsT es a k)[k]? = some p → ∀ q ∈ bfsT es a k, q.2 ≤ p.2 + 1) ∧ ∀ j, j < k → BClosed es (bfsT es a k) j
  | 0 => by
    refine ⟨⟨by simp [bfsT], by simpa [bfsT] using ha, rfl, by simp [bfsT], ?_, ?_, by simp [bfsT]⟩, by simp [bfsT], fun j hj => by omega⟩
    · intro j j' p q hj hp hq
      have h1 := get_lt hp; have h2 := get_lt hq
      simp only [bfsT, List.length_singleton] at h1 h2
      obtain rfl : j = 0 := by omega
      obtain rfl : j' = 0 := by omega
      rw [hp] at hq; cases hq; exact Nat.le_refl _
    · intro j p hp
      have h1 := get_lt hp
      simp only [bfsT, List.length_singleton] at h1
      obtain rfl : j = 0 := by omega
      simp only [bfsT, List.getElem?_cons_zero, Option.some.injEq] at hp
      subst hp; exact Nat.le_refl _
  | k + 1 => by
    obtain ⟨h1, h2, h3⟩ := bfsT_inv ha hes k
    unfold bfsT
    split
    · rename_i hn
      have hl : (bfsT es a k).length ≤ k := by simpa using hn
      refine ⟨h1, fun p hp => ?_, fun j hj => ?_⟩
      · have := get_lt hp; omega
      · rcases Nat.lt_or_ge j k with hjk | hjk
        · exact h3 j hjk
        · intro p hp; have := get_lt hp; omega
    · rename_i p hp
      obtain ⟨g1, g2, g3, ⟨t, g4⟩, g5⟩ := rowB_inv h1 hp (h2 p hp) hes es.length (Nat.le_refl _)
      have hk := get_lt hp
      refine ⟨g1, fun p' hp' q hq => ?_, fun j hj => ?_⟩
      · have := g3 q hq
        have := g1.srt k (k + 1) p p' (by omega) g2 hp'
        omega
      · rcases Nat.lt_or_ge j k with hjk | hjk
        · intro q hq e he v hv
          rw [g4, List.getElem?_append_left (by omega)] at hq
          obtain ⟨d, hd, hd2⟩ := h3 j hjk q hq e he v hv
          exact ⟨d, by rw [g4]; exact List.mem_append_left _ hd, hd2⟩
        · obtain rfl : j = k := by omega
          intro q hq e he v hv
          rw [g2] at hq; cases hq
          obtain ⟨i, hi, rfl⟩ := List.getElem_of_mem he
          have hm := g5 i hi v (by rw [List.getD_eq_getElem?_getD, List.getElem?_eq_getElem hi]; exact conn_nextE hv)
          obtain ⟨⟨v', d⟩, hd, rfl⟩ := List.mem_map.1 hm
          exact ⟨d, hd, g3 _ hd⟩
theorem nodup_le : ∀ (n : Nat) (l : List Nat), l.Nodup → (∀ x ∈ l, x < n) → l.length ≤ n
  | 0, l, _, h => by
    cases l with
    | nil => exact Nat.le_refl _
    | cons x l => exact absurd (h x (by simp)) (by omega)
  | n + 1, l, hn, h => by
    by_cases hm : n ∈ l
    · have h1 := nodup_le n (l.erase n) (hn.erase n) (fun x hx => by
        have h2 := (List.Nodup.mem_erase_iff hn).1 hx
        have := h x h2.2
        have := h2.1
        omega)
      rw [List.length_erase_of_mem hm] at h1
      omega
    · exact Nat.le_succ_of_le (nodup_le n l hn fun x hx => by
        have := h x hx
        have : x ≠ n := fun e => hm (e ▸ hx)
        omega)
theorem bfsT_len {es : List (Nat × Nat)} {n a : Nat} (ha : a < n) (hes : ∀ e ∈ es, e.1 < n ∧ e.2 < n) (k : Nat) : (bfsT es a k).length ≤ n := by
  obtain ⟨h1, _, _⟩ := bfsT_inv ha hes k
  have := nodup_le n _ h1.nd (fun x hx => by obtain ⟨p, hp, rfl⟩ := List.mem_map.1 hx; exact h1.lt p hp)
  simpa using this
theorem key_inj {fl : List (Nat × Nat)} (h : (fl.map Prod.fst).Nodup) {v d d' : Nat} (h1 : (v, d) ∈ fl) (h2 : (v, d') ∈ fl) : d = d' := by
  induction fl with
  | nil => cases h1
  | cons p fl ih =>
    rw [List.map_cons, List.nodup_cons] at h
    rcases List.mem_cons.1 h1 with e1 | h1
    · rcases List.mem_cons.1 h2 with e2 | h2
      · rw [← e1] at e2; cases e2; rfl
      · exact absurd (List.mem_map.2 ⟨_, h2, by rw [← e1]⟩) h.1
    · rcases List.mem_cons.1 h2 with e2 | h2
      · exact absurd (List.mem_map.2 ⟨_, h1, by rw [← e2]⟩) h.1
      · exact ih h.2 h1 h2
/-! rounds -/
def updF (f : Nat → Int) (k : Nat) (v : Int) : Nat → Int := fun i => if i = k then v else f i
def halfE (s : Int) (f : Nat → Int) (u v : Nat) : Nat → Int := if f u = s ∧ f v < 0 then updF f v (s + 1) else f
def stepE (s : Int) (f : Nat → Int) (e : Nat × Nat) : Nat → Int := halfE s (halfE s f e.1 e.2) e.2 e.1
def rowE (es : List (Nat × Nat)) (s : Int) (f : Nat → Int) : Nat → Nat → Int
  | 0 => f
  | k + 1 => stepE s (rowE es s f k) (es.getD k (0, 0))
def roundsF (es : List (Nat × Nat)) (a : Nat) : Nat → Nat → Int
  | 0 => updF (fun _ => -1) a 0
  | s + 1 => rowE es (s : Int) (roundsF es a s) es.length
/-- What holds amid a round: of the links so far those in the list C (pairs: from, to). -/
def RowP (f : Nat → Int) (s : Int) (C : Nat → Nat → Prop) (g : Nat → Int) : Prop :=
  (∀ v, 0 ≤ f v → g v = f v) ∧ ∀ v, f v < 0 → (g v = s + 1 ∧ ∃ u, C u v ∧ f u = s) ∨ (g v = -1 ∧ ∀ u, C u v → f u ≠ s)
theorem half_rowP {f g : Nat → Int} {s : Int} {C : Nat → Nat → Prop} (hs : 0 ≤ s) (h : RowP f s C g) (u v : Nat) : RowP f s (fun x y => C x y ∨ (x = u ∧ y = v)) (halfE s g u v) := by
  have hu : g u = s ↔ f u = s := by
    rcases Int.lt_or_le (f u) 0 with h1 | h1
    · rcases h.2 u h1 with h2 | h2
      · constructor <;> intro h3 <;> omega
      · constructor <;> intro h3 <;> omega
    · rw [h.1 u h1]
  unfold halfE
  split
  · rename_i hc
    have hfv : f v < 0 := by
      rcases Int.lt_or_le (f v) 0 with h1 | h1
      · exact h1
      · rw [h.1 v h1] at hc; omega
    refine ⟨fun y hy => ?_, fun y hy => ?_⟩
    · unfold updF
      rw [if_neg (fun e => by subst e; omega)]
      exact h.1 y hy
    · unfold updF
      split
      · rename_i e; subst e
        exact .inl ⟨rfl, u, .inr ⟨rfl, rfl⟩, hu.1 hc.1⟩
      · rename_i e
        rcases h.2 y hy with ⟨h2, x, h3, h4⟩ | ⟨h2, h3⟩
        · exact .inl ⟨h2, x, .inl h3, h4⟩
        · refine .inr ⟨h2, fun x hx => ?_⟩
          rcases hx with hx | ⟨_, hx⟩
          · exact h3 x hx
          · exact absurd hx e
  · rename_i hc
    refine ⟨h.1, fun y hy => ?_⟩
    rcases h.2 y hy with ⟨h2, x, h3, h4⟩ | ⟨h2, h3⟩
    · exact .inl ⟨h2, x, .inl h3, h4⟩
    · refine .inr ⟨h2, fun x hx => ?_⟩
      rcases hx with hx | ⟨rfl, rfl⟩
      · exact h3 x hx
      · intro h5
        exact hc ⟨hu.2 h5, by omega⟩
theorem RowP.iff {f g : Nat → Int} {s : Int} {C D : Nat → Nat → Prop} (h : RowP f s C g) (e : ∀ u v, C u v ↔ D u v) : RowP f s D g :=
  ⟨h.1, fun v hv => by
    rcases h.2 v hv with ⟨h2, x, h3, h4⟩ | ⟨h2, h3⟩
    · exact .inl ⟨h2, x, (e _ _).1 h3, h4⟩
    · exact .inr ⟨h2, fun x hx => h3 x ((e _ _).2 hx)⟩⟩
theorem rowE_P (es : List (Nat × Nat)) {s : Int} (hs : 0 ≤ s) {f : Nat → Int} (hf : ∀ v, f v < 0 → f v = -1) : ∀ k, RowP f s (fun u v => ∃ j, j < k ∧ conn (es.getD j (0, 0)) u v) (rowE es s f k)
  | 0 => ⟨fun _ _ => rfl, fun v hv => .inr ⟨hf v hv, fun u ⟨j, hj, _⟩ => by omega⟩⟩
  | k + 1 => by
    have ih := rowE_P es hs hf k
    refine (half_rowP hs (half_rowP hs ih (es.getD k (0, 0)).1 (es.getD k (0, 0)).2) (es.getD k (0, 0)).2 (es.getD k (0, 0)).1).iff fun u v => ?_
    constructor
    · rintro ((⟨j, hj, hc⟩ | ⟨rfl, rfl⟩) | ⟨rfl, rfl⟩)
      · exact ⟨j, by omega, hc⟩
      · exact ⟨k, by omega, .inl ⟨rfl, rfl⟩⟩
      · exact ⟨k, by omega, .inr ⟨rfl, rfl⟩⟩
    · rintro ⟨j, hj, hc⟩
      rcases Nat.lt_or_ge j k with hjk | hjk
      · exact .inl (.inl ⟨j, hjk, hc⟩)
      · obtain rfl : j = k := by omega
        rcases hc with ⟨rfl, rfl⟩ | ⟨rfl, rfl⟩
        · exact .inl (.inr ⟨rfl, rfl⟩)
        · exact .inr ⟨rfl, rfl⟩
theorem rounds_eq {es L : List (Nat × Nat)} {n a : Nat} (h : BInv es n a L) (hc : ∀ j, j < L.length → BClosed es L j) : ∀ (s v : Nat),
    (∃ d, (v, d) ∈ L ∧ d ≤ s ∧ roundsF es a s v = (d : Int)) ∨ (roundsF es a s v = -1 ∧ ∀ d, (v, d) ∈ L → s < d)
  | 0, v => by
    by_cases hv : v = a
    · subst hv
      exact .inl ⟨0, List.mem_of_getElem? h.h0, Nat.le_refl _, by simp [roundsF, updF]⟩
    · refine .inr ⟨by simp [roundsF, updF, hv], fun d hd => ?_⟩
      rcases Nat.eq_zero_or_pos d with h0 | h0
      · subst h0; exact absurd (h.z _ hd rfl) hv
      · exact h0
  | s + 1, v => by
    have ih := rounds_eq h hc s
    have hf : ∀ v, roundsF es a s v < 0 → roundsF es a s v = -1 := fun v hv => by
      rcases ih v with ⟨d, _, _, h3⟩ | ⟨h3, _⟩
      · omega
      · exact h3
    have hp := rowE_P es (s := (s : Int)) (by omega) hf es.length
    show (∃ d, (v, d) ∈ L ∧ d ≤ s + 1 ∧ rowE es (s : Int) (roundsF es a s) es.length v = (d : Int)) ∨ (rowE es (s : Int) (roundsF es a s) es.length v = -1 ∧ ∀ d, (v, d) ∈ L → s + 1 < d)
    rcases ih v with ⟨d, h1, h2, h3⟩ | ⟨h1, h2⟩
    · exact .inl ⟨d, h1, by omega, by rw [hp.1 v (by omega)]; exact h3⟩
    · rcases hp.2 v (by omega) with ⟨g1, u, ⟨j, hj, hcn⟩, g2⟩ | ⟨g1, g2⟩
      · rcases ih u with ⟨d, k1, k2, k3⟩ | ⟨k1, _⟩
        · have hd : d = s := by omega
          subst hd
          obtain ⟨i, hi, he⟩ := List.getElem_of_mem k1
          have hm : es.getD j (0, 0) ∈ es := by
            rw [List.getD_eq_getElem?_getD, List.getElem?_eq_getElem hj]
            exact List.getElem_mem _
          obtain ⟨d', q1, q2⟩ := hc i hi (u, d) (by rw [List.getElem?_eq_getElem hi, he]) _ hm v hcn
          have := h2 d' q1
          have q2 : d' ≤ d + 1 := q2
          obtain rfl : d' = d + 1 := by omega
          exact .inl ⟨d + 1, q1, Nat.le_refl _, by rw [g1]; push_cast; rfl⟩
        · omega
      · refine .inr ⟨g1, fun d hd => ?_⟩
        have := h2 d hd
        rcases Nat.lt_or_ge (s + 1) d with hl | hl
        · exact hl
        · obtain rfl : d = s + 1 := by omega
          obtain ⟨u, hu, e, he, hcn⟩ := h.p1 _ hd s rfl
          obtain ⟨j, hj, rfl⟩ := List.getElem_of_mem he
          refine absurd ?_ (g2 u ⟨j, hj, by rw [List.getD_eq_getElem?_getD, List.getElem?_eq_getElem hj]; exact hcn⟩)
          rcases ih u with ⟨d', k1, k2, k3⟩ | ⟨k1, k2⟩
          · rw [k3, key_inj h.nd k1 hu]
          · have := k2 s hu; omega
theorem bfsT_prefix {es : List (Nat × Nat)} {n a : Nat} (ha : a < n) (hes : ∀ e ∈ es, e.1 < n ∧ e.2 < n) (k : Nat) : ∀ m, ∃ t, bfsT es a (k + m) = bfsT es a k ++ t
  | 0 => ⟨[], by simp⟩
  | m + 1 => by
    obtain ⟨t, ht⟩ := bfsT_prefix ha hes k m
    rw [← Nat.add_assoc, bfsT_succ]
    split
    · exact ⟨t, ht⟩
    · rename_i p hp
      obtain ⟨h1, h2, _⟩ := bfsT_inv ha hes (k + m)
      obtain ⟨_, _, _, ⟨t', g4⟩, _⟩ := rowB_inv h1 hp (h2 p hp) hes es.length (Nat.le_refl _)
      exact ⟨t ++ t', by rw [g4, ht, List.append_assoc]⟩
theorem bfsT_stop {es : List (Nat × Nat)} {a k : Nat} (h : (bfsT es a k).length ≤ k) : ∀ m, bfsT es a (k + m) = bfsT es a k
  | 0 => rfl
  | m + 1 => by
    have ih := bfsT_stop h m
    rw [← Nat.add_assoc, bfsT_succ, ih, List.getElem?_eq_none (by omega)]
def apartF (es : List (Nat × Nat)) (n a b : Nat) : Int × Int := if roundsF es a n b < 0 then (0, 6) else (roundsF es a n b, 0)
theorem apart_found {es : List (Nat × Nat)} {n a k : Nat} (ha : a < n) (hes : ∀ e ∈ es, e.1 < n ∧ e.2 < n) {p : Nat × Nat} (h : (bfsT es a k)[k]? = some p) : apartF es n a p.1 = ((p.2 : Int), 0) := by
  have hk := get_lt h
  have hl := bfsT_len ha hes k
  obtain ⟨t, ht⟩ := bfsT_prefix ha hes k (n - k)
  rw [show k + (n - k) = n by omega] at ht
  obtain ⟨h1, _, h3⟩ := bfsT_inv ha hes n
  have hm : p ∈ bfsT es a n := by rw [ht]; exact List.mem_append_left _ (List.mem_of_getElem? h)
  have hc : ∀ j, j < (bfsT es a n).length → BClosed es (bfsT es a n) j := fun j hj => h3 j (Nat.lt_of_lt_of_le hj (bfsT_len ha hes n))
  unfold apartF
  rcases rounds_eq h1 hc n p.1 with ⟨d, g1, g2, g3⟩ | ⟨_, g2⟩
  · rw [g3, if_neg (by omega), key_inj h1.nd g1 (d' := p.2) hm]
  · have := g2 p.2 hm
    obtain ⟨i, hi, he⟩ := List.getElem_of_mem hm
    have := h1.le i p (by rw [List.getElem?_eq_getElem hi, he])
    have := bfsT_len ha hes n
    omega
theorem apart_none {es : List (Nat × Nat)} {n a b k : Nat} (ha : a < n) (hes : ∀ e ∈ es, e.1 < n ∧ e.2 < n) (hk : k ≤ n) (hl : (bfsT es a k).length ≤ k) (hb : ∀ j, j < k → ∀ p, (bfsT es a k)[j]? = some p → p.1 ≠ b) : apartF es n a b = (0, 6) := by
  have ht := bfsT_stop hl (n - k)
  rw [show k + (n - k) = n by omega] at ht
  obtain ⟨h1, _, h3⟩ := bfsT_inv ha hes n
  have hc : ∀ j, j < (bfsT es a n).length → BClosed es (bfsT es a n) j := fun j hj => h3 j (Nat.lt_of_lt_of_le hj (bfsT_len ha hes n))
  unfold apartF
  rcases rounds_eq h1 hc n b with ⟨d, g1, _, _⟩ | ⟨g1, _⟩
  · rw [ht] at g1
    obtain ⟨i, hi, he⟩ := List.getElem_of_mem g1
    exact absurd rfl (hb i (by omega) (b, d) (by rw [List.getElem?_eq_getElem hi, he]))
  · rw [g1]; rfl
/-! lists of words -/
def vecI (f : Nat → Int) (n : Nat) : List (List AV) := (List.range n).map fun i => [.int .i64 (f i)]
theorem vecI_len (f : Nat → Int) (n : Nat) : (vecI f n).length = n := by simp [vecI]
theorem vecI_set (f : Nat → Int) (n k : Nat) (v : Int) : (vecI f n).set k [.int .i64 v] = vecI (updF f k v) n := by
  apply List.ext_getElem (by simp [vecI])
  intro i h1 h2
  simp only [vecI, List.length_set, List.length_map, List.length_range] at h1
  rw [List.getElem_set]
  simp only [vecI, List.getElem_map, List.getElem_range, updF]
  split
  · rename_i h; rw [if_pos h.symm]
  · rename_i h; rw [if_neg (fun e => h e.symm)]
theorem vecI_recs (f : Nat → Int) (n : Nat) : Recs [.int .i64] (vecI f n) := by
  intro m hm
  simp only [vecI, List.mem_map] at hm
  obtain ⟨i, _, rfl⟩ := hm
  exact .cons ⟨_, rfl⟩ .nil
theorem vecI_rep (n : Nat) (v : Int) : List.replicate n [AV.int .i64 v] = vecI (fun _ => v) n := by
  apply List.ext_getElem (by simp [vecI])
  intro i h1 h2
  simp [vecI]
theorem vec_parts' (f : Nat → Int) (n k : Nat) (h : k < (vecI f n).length) : ∃ v : Int, (vecI f n)[k] = [AV.int .i64 v] ∧ v = f k := ⟨f k, by simp [vecI], rfl⟩
def fillF (i : Nat) : Nat → Int := fun j => if j < i then -1 else 0
theorem fill_0 (n : Nat) : List.replicate n [AV.int .i64 0] = vecI (fillF 0) n := by
  rw [vecI_rep]; congr 1
theorem fill_succ (n i : Nat) : vecI (fillF (i + 1)) n = vecI (updF (fillF i) i (-1)) n := by
  congr 1
  funext j
  unfold fillF updF
  by_cases h1 : j = i
  · subst h1; rw [if_pos (by omega), if_pos rfl]
  · rw [if_neg h1]
    show (if j < i + 1 then (-1 : Int) else 0) = (if j < i then -1 else 0)
    by_cases h2 : j < i
    · rw [if_pos h2, if_pos (by omega)]
    · rw [if_neg h2, if_neg (by omega)]
theorem fill_all {es : List (Nat × Nat)} {n a : Nat} : vecI (updF (fillF n) a 0) n = vecI (roundsF es a 0) n := by
  unfold vecI
  apply List.map_congr_left
  intro i hi
  have hi := List.mem_range.1 hi
  show [AV.int .i64 (updF (fillF n) a 0 i)] = [.int .i64 (updF (fun _ => -1) a 0 i)]
  unfold updF fillF
  rw [if_pos hi]
theorem half_pos {s : Int} {g : Nat → Int} {u v : Nat} (h1 : g u = s) (h2 : g v < 0) : halfE s g u v = updF g v (s + 1) := if_pos ⟨h1, h2⟩
theorem half_n1 {s : Int} {g : Nat → Int} {u v : Nat} (h1 : ¬ g u = s) : halfE s g u v = g := if_neg fun h => h1 h.1
theorem half_n2 {s : Int} {g : Nat → Int} {u v : Nat} (h1 : ¬ g v < 0) : halfE s g u v = g := if_neg fun h => h1 h.2
end Go.Ab
end
/- Maps of words to words; queues: slices that fill their rows from some place on. -/
section
namespace Go.Ab
def mpT (fl : List (Nat × Nat)) : List (AV × AV) := fl.map fun p => (.int .i64 (p.1 : Int), .int .i64 (p.2 : Int))
inductive MpF (H : AHeap) (fl : List (Nat × Nat)) : AV → Prop where
  | mk {l : Nat} (hg : H.get l = some (.mp (mpT fl))) : MpF H fl (.slice l 0 0 0 1)
/-- A slice that has its row for itself from its first element on. -/
inductive SlV (H : AHeap) (sz : Nat) (ms : List (List AV)) : AV → Prop where
  | sl {l o n cap : Nat} {pre : List AV} (hg : H.get l = some (.row (pre ++ ms.flatten) true)) (hn : ms.length = n) (hc : n ≤ cap) (ho : pre.length = o) : SlV H sz ms (.slice l o n cap sz)
section
variable {H H' : AHeap} {sz : Nat} {ms : List (List AV)} {S : AV} {fl : List (Nat × Nat)}
theorem MpF.grew (g : Grew H H') (h : MpF H fl S) : MpF H' fl S := by
  cases h with
  | mk hg => exact .mk (g.at hg)
theorem MpF.lt (h : MpF H fl S) : ∀ l, AtS S l → l < H.next := by
  intro l hl
  cases h with
  | mk hg => rw [atS hl]; exact H.lt_of_get hg
theorem MpF.only {S1 : AV} (h : MpF H fl S) (k : OnlyS S1 H H') (hn : ApartS S S1) : MpF H' fl S := by
  cases h with
  | mk hg => exact .mk (k.at hg ⟨hn.ne _ ⟨_, _, _, _, rfl⟩⟩)
theorem MpF.apart_new (h : MpF H fl S) {l : Nat} (hl : H.next ≤ l) : ApartL S l := ⟨fun ha => Nat.lt_irrefl _ (Nat.lt_of_lt_of_le (h.lt l ha) hl)⟩
theorem MpF.keep {f : Nat} {ws : List Win} (h : MpF H fl S) (hk : Kept f (winLs ws) H H') (hn : NotS S (ws.drop f)) : MpF H' fl S := by
  cases h with
  | @mk l hg =>
    refine .mk (kept_at hk hg ?_)
    generalize ws.drop f = us at hn
    induction us with
    | nil => trivial
    | cons w us ih => exact ⟨⟨fun e => hn.1.ne ⟨_, _, _, _, by rw [e]⟩⟩, ih hn.2⟩
theorem SlV.grew (g : Grew H H') (h : SlV H sz ms S) : SlV H' sz ms S := by
  cases h with
  | sl hg hn hc ho => exact .sl (g.at hg) hn hc ho
theorem SlV.lt (h : SlV H sz ms S) : ∀ l, AtS S l → l < H.next := by
  intro l hl
  cases h with
  | sl hg => rw [atS hl]; exact H.lt_of_get hg
theorem SlV.only {S1 : AV} (h : SlV H sz ms S) (k : OnlyS S1 H H') (hn : ApartS S S1) : SlV H' sz ms S := by
  cases h with
  | sl hg h1 h2 h3 => exact .sl (k.at hg ⟨hn.ne _ ⟨_, _, _, _, rfl⟩⟩) h1 h2 h3
theorem SlV.apart_new (h : SlV H sz ms S) {l : Nat} (hl : H.next ≤ l) : ApartL S l := ⟨fun ha => Nat.lt_irrefl _ (Nat.lt_of_lt_of_le (h.lt l ha) hl)⟩
theorem SlV.one (h : SlV H sz ms S) : S.one = true := by cases h; rfl
theorem SlV.keep {f : Nat} {ws : List Win} (h : SlV H sz ms S) (hk : Kept f (winLs ws) H H') (hn : NotS S (ws.drop f)) : SlV H' sz ms S := by
  cases h with
  | @sl l o n cap pre hg h1 h2 h3 =>
    refine .sl (kept_at hk hg ?_) h1 h2 h3
    generalize ws.drop f = us at hn
    induction us with
    | nil => trivial
    | cons w us ih => exact ⟨⟨fun e => hn.1.ne ⟨_, _, _, _, by rw [e]⟩⟩, ih hn.2⟩
end
theorem cellEq_int (a b : Int) : cellEq 0 (.int .i64 a) (.int .i64 b) = some (decide (a = b)) := by
  simp [cellEq]
theorem mpSet_new (v x : Nat) : ∀ fl : List (Nat × Nat), v ∉ fl.map Prod.fst → mpSet (mpT fl) (.int .i64 (v : Int)) (.int .i64 (x : Int)) = some (mpT (fl ++ [(v, x)]))
  | [], _ => rfl
  | p :: fl, h => by
    have h1 : v ≠ p.1 := fun e => h (by rw [e]; simp)
    have ih := mpSet_new v x fl (fun hm => h (by rw [List.map_cons]; exact List.mem_cons_of_mem _ hm))
    show (match cellEq 0 (.int .i64 (v : Int)) (.int .i64 (p.1 : Int)) with
      | some true => some ((_, _) :: _)
      | some false => (mpSet (mpT fl) _ _).map ((_, _) :: ·)
      | none => none) = _
    rw [cellEq_int, decide_eq_false (by omega), ih]
    rfl
theorem lookA_out (v : Nat) : ∀ fl : List (Nat × Nat), v ∉ fl.map Prod.fst → lookA (mpT fl) (.int .i64 (v : Int)) = some none
  | [], _ => rfl
  | p :: fl, h => by
    have h1 : v ≠ p.1 := fun e => h (by rw [e]; simp)
    have ih := lookA_out v fl (fun hm => h (by rw [List.map_cons]; exact List.mem_cons_of_mem _ hm))
    show (match cellEq 0 (.int .i64 (v : Int)) (.int .i64 (p.1 : Int)) with
      | some true => some (some _)
      | some false => lookA (mpT fl) _
      | none => none) = _
    rw [cellEq_int, decide_eq_false (by omega)]
    exact ih
theorem lookA_in (v d : Nat) : ∀ fl : List (Nat × Nat), (fl.map Prod.fst).Nodup → (v, d) ∈ fl → lookA (mpT fl) (.int .i64 (v : Int)) = some (some (.int .i64 (d : Int)))
  | [], _, h => by cases h
  | p :: fl, hn, h => by
    rw [List.map_cons, List.nodup_cons] at hn
    show (match cellEq 0 (.int .i64 (v : Int)) (.int .i64 (p.1 : Int)) with
      | some true => some (some (AV.int .i64 (p.2 : Int)))
      | some false => lookA (mpT fl) _
      | none => none) = _
    rw [cellEq_int]
    rcases List.mem_cons.1 h with e | h
    · rw [← e, decide_eq_true rfl]
    · have h1 : v ≠ p.1 := fun e => hn.1 (e ▸ List.mem_map.2 ⟨_, h, rfl⟩)
      rw [decide_eq_false (by omega)]
      exact lookA_in v d fl hn.2 h
theorem res_look {P : Program} {o : Pt} {d : Option Nat} {z : AV} {ok : Bool} {x y : Opd} (ho : o = .ops (⟨d, .lookup z ok x y, none⟩ :: ptRest o) (ptFr o)) {Q : AExit → Env → AHeap → Prop} {E : Env} {H : AHeap} {r : AV} (ha : aval E H.get (.lookup z ok x y) = some r)
    (h : Res P (.ops (ptRest o) (ptFr o)) Q (E.put d r) H) : Res P o Q E H := by
  rw [ho]
  simp only [Res, arun, aeff, ha]
  exact h
section
variable {E : Env} {H : AHeap} {t y l v d : Nat} {fl : List (Nat × Nat)} {z : AV}
theorem look_val (h1 : E t = .map l) (hm : MpF H fl (.slice l 0 0 0 1)) (h2 : E y = .int .i64 (v : Int)) {r : Option AV} (h3 : lookA (mpT fl) (.int .i64 (v : Int)) = some r) (ok : Bool) : aval E H.get (.lookup z ok (.tmp t) (.tmp y)) = some (if ok then .tuple [r.getD z, .bool r.isSome] else r.getD z) := by
  cases hm with
  | mk hg =>
    show (match E t with
      | .map l => match H.get l with
        | some (.mp es) => (lookA es (E y)).map fun (r : Option AV) =>
            let v := r.getD z
            if ok then AV.tuple [v, .bool r.isSome] else v
        | _ => none
      | _ => none) = _
    rw [h1, h2]
    simp only [hg, h3, Option.map_some]
theorem look0 (h1 : E t = .map l) (hm : MpF H fl (.slice l 0 0 0 1)) (h2 : E y = .int .i64 (v : Int)) (hn : (fl.map Prod.fst).Nodup) (h3 : (v, d) ∈ fl) : aval E H.get (.lookup z false (.tmp t) (.tmp y)) = some (.int .i64 (d : Int)) := look_val h1 hm h2 (lookA_in v d fl hn h3) false
theorem look1 (h1 : E t = .map l) (hm : MpF H fl (.slice l 0 0 0 1)) (h2 : E y = .int .i64 (v : Int)) (hn : (fl.map Prod.fst).Nodup) (h3 : (v, d) ∈ fl) : aval E H.get (.lookup z true (.tmp t) (.tmp y)) = some (.tuple [.int .i64 (d : Int), .bool true]) := look_val h1 hm h2 (lookA_in v d fl hn h3) true
theorem look2 (h1 : E t = .map l) (hm : MpF H fl (.slice l 0 0 0 1)) (h2 : E y = .int .i64 (v : Int)) (h3 : v ∉ fl.map Prod.fst) : aval E H.get (.lookup (.int .i64 0) true (.tmp t) (.tmp y)) = some (.tuple [.int .i64 0, .bool false]) := look_val h1 hm h2 (lookA_out v fl h3) true
end
theorem res_map {P : Program} {o : Pt} {d : Option Nat} (ho : o = .ops (⟨d, .makeMap, none⟩ :: ptRest o) (ptFr o)) {Q : AExit → Env → AHeap → Prop} {E : Env} {H : AHeap}
    (h : ∀ l H', MpF H' [] (.slice l 0 0 0 1) → H.next ≤ l → Grew H H' → Res P (.ops (ptRest o) (ptFr o)) Q (E.put d (.map l)) H') : Res P o Q E H := by
  rw [ho]
  simp only [Res, arun, aeff]
  exact h H.next _ (.mk (by rw [AHeap.new_get, if_pos rfl]; rfl)) (Nat.le_refl _) ((Grew.refl H).new _)
theorem res_upd {P : Program} {o : Pt} {x y z : Opd} (ho : o = .ops (⟨none, .mapUpdate x y z, none⟩ :: ptRest o) (ptFr o)) {Q : AExit → Env → AHeap → Prop} {E : Env} {H : AHeap} {l v d : Nat} {fl : List (Nat × Nat)} (hx : x.ev E = .map l) (hm : MpF H fl (.slice l 0 0 0 1)) (hy : y.ev E = .int .i64 (v : Int)) (hz : z.ev E = .int .i64 (d : Int)) (hv : v ∉ fl.map Prod.fst)
    (h : ∀ H', MpF H' (fl ++ [(v, d)]) (.slice l 0 0 0 1) → OnlyS (.slice l 0 0 0 1) H H' → Res P (.ops (ptRest o) (ptFr o)) Q (E.put none .undef) H') : Res P o Q E H := by
  rw [ho]
  cases hm with
  | mk hg =>
    simp only [Res, arun, aeff, hx, hg, hy, hz, mpSet_new v d fl hv]
    refine h _ (.mk (by rw [AHeap.put_get, if_pos ⟨rfl, H.lt_of_get hg⟩])) ⟨Nat.le_refl _, fun l' hl hn => ?_⟩
    rw [AHeap.put_get, if_neg (fun e => hn (by rw [e.1]; exact ⟨_, _, _, _, rfl⟩))]
theorem res_appendV {P : Program} {o : Pt} {d : Option Nat} {sz bytes : Nat} {x y : Opd} (ho : o = .ops (⟨d, .append sz bytes x y, none⟩ :: ptRest o) (ptFr o)) {Q : AExit → Env → AHeap → Prop} {E : Env} {H : AHeap} {S : AV} {ms ys : List (List AV)} (hx : x.ev E = S) (hS : SlV H sz ms S) (hm : ∀ m ∈ ms, m.length = sz) (hy : srcCells H.get sz (y.ev E) = some (ys.flatten, ys.length)) (h1 : ys.flatten.all AV.one = true) (hy0 : 0 < ys.length) (hb : (2 * (ms.length + ys.length) + 192) * bytes ≤ 281474976710656)
    (h : ∀ S' H', SlV H' sz (ms ++ ys) S' → FromS H.next S S' → OnlyS S H H' → Res P (.ops (ptRest o) (ptFr o)) Q (E.put d S') H') : Res P o Q E H := by
  have hl : ms.flatten.length = ms.length * sz := by
    have := take_flat_len hm (i := ms.length) (Nat.le_refl _)
    rwa [List.take_length] at this
  rw [ho]
  simp only [Res, arun, aeff]
  rw [hx]
  unfold appendA
  rw [hy]
  cases hS with
  | @sl l o n cap pre hg hn hc hoo =>
    subst hn
    simp only []
    rw [if_pos trivial]
    split
    · rename_i h0
      have : ms = [] := List.eq_nil_of_length_eq_zero (by omega)
      subst this
      rw [if_neg (by omega)]
      refine ⟨by simpa using hb, h1, fun c hc2 => ?_⟩
      refine h _ _ (.sl (pre := []) (by rw [AHeap.new_get, if_pos rfl]; simp) (by simp) hc2 rfl) ⟨fun l hl => .inl (by rw [atS hl]; exact Nat.le_refl _)⟩ ⟨by rw [AHeap.new_next]; omega, fun l hl _ => by rw [AHeap.new_get, if_neg (by omega)]⟩
    · rw [hg]
      simp only []
      rw [if_pos (by rw [List.length_append]; omega)]
      refine ⟨by simpa using hb, h1, fun c hc2 => ?_⟩
      have hll := H.lt_of_get hg
      have hd : (pre ++ ms.flatten).drop o = ms.flatten := by rw [← hoo]; simp
      refine h _ _ (.sl (pre := []) (by rw [AHeap.new_get, if_pos rfl, hd]; simp) (by simp) hc2 rfl) ⟨fun l hl => .inl (by rw [atS hl]; exact Nat.le_refl _)⟩ ⟨?_, fun l' hl' hn => ?_⟩
      · rw [AHeap.new_next]; show H.next ≤ H.next + 1; omega
      · have hne : l' ≠ l := fun e => hn (by subst e; exact ⟨_, _, _, _, rfl⟩)
        rw [AHeap.new_get, if_neg (by show l' ≠ H.next; omega), get_del_ne hne]
/-! the queue of a search: what has not been looked at -/
def qT (fl : List (Nat × Nat)) (k : Nat) : List (List AV) := (fl.drop k).map fun p => [.int .i64 (p.1 : Int)]
theorem qT_len (fl : List (Nat × Nat)) (k : Nat) : (qT fl k).length = fl.length - k := by simp [qT]
theorem qT_cons {fl : List (Nat × Nat)} {k : Nat} {p : Nat × Nat} (h : fl[k]? = some p) : qT fl k = [.int .i64 (p.1 : Int)] :: qT fl (k + 1) := by
  have hk := get_lt h
  unfold qT
  rw [List.drop_eq_getElem_cons hk]
  rw [List.getElem?_eq_getElem hk] at h
  cases h
  rfl
theorem qT_app {fl : List (Nat × Nat)} {k : Nat} (h : k ≤ fl.length) (v d : Nat) : qT (fl ++ [(v, d)]) k = qT fl k ++ [[.int .i64 (v : Int)]] := by
  unfold qT
  rw [List.drop_append_of_le_length h, List.map_append]; rfl
theorem qT_recs (fl : List (Nat × Nat)) (k : Nat) : Recs [.int .i64] (qT fl k) := by
  intro m hm
  simp only [qT, List.mem_map] at hm
  obtain ⟨p, _, rfl⟩ := hm
  exact .cons ⟨_, rfl⟩ .nil
theorem SlV.head {H : AHeap} {S : AV} {fl : List (Nat × Nat)} {k : Nat} {p : Nat × Nat} (h : SlV H 1 (qT fl k) S) (hp : fl[k]? = some p) : ∃ l o n cap pre post, S = .slice l o n cap 1 ∧ H.get l = some (.row (pre ++ ([.int .i64 (p.1 : Int)] ++ post)) true) ∧ pre.length = o ∧ 0 < n := by
  rw [qT_cons hp] at h
  cases h with
  | @sl l o n cap pre hg hn hc ho => exact ⟨l, o, n, cap, pre, _, rfl, hg, ho, by subst hn; simp⟩
theorem SlV.tail {H : AHeap} {S : AV} {fl : List (Nat × Nat)} {k : Nat} {p : Nat × Nat} (h : SlV H 1 (qT fl k) S) (hp : fl[k]? = some p) : ∃ V, SlV H 1 (qT fl (k + 1)) V ∧ (∀ l, AtS V l → AtS S l) ∧ ∀ (E : Env) get, aval E get (.slSl 1 (.const S) (some (.const (.int .i64 1))) none none) = some V := by
  rw [qT_cons hp] at h
  cases h with
  | @sl l o n cap pre hg hn hc ho =>
    subst hn
    refine ⟨.slice l (o + 1 * 1) (([AV.int .i64 (p.1 : Int)] :: qT fl (k + 1)).length - 1) (cap - 1) 1, .sl (pre := pre ++ [.int .i64 (p.1 : Int)]) (by rw [hg]; simp) (by simp) (by simp at hc ⊢; omega) (by simp [ho]), fun l' hl' => ?_, fun E get => ?_⟩
    · rw [atS hl']; exact ⟨_, _, _, _, rfl⟩
    · simp only [aval, Opd.ev, Option.map_some, Option.map_none]
      rw [if_pos trivial]
      have : bnds ([AV.int .i64 (p.1 : Int)] :: qT fl (k + 1)).length cap (some (.int .i64 1)) none none = some (1, ([AV.int .i64 (p.1 : Int)] :: qT fl (k + 1)).length, cap) := by
        simp only [List.length_cons] at hc
        simp only [bnds, bnd, List.length_cons]
        rw [if_pos ⟨by omega, by simp; omega⟩]
        simp [hc]
      rw [this]
theorem SlV.len {H : AHeap} {S : AV} {ms : List (List AV)} {sz : Nat} (h : SlV H sz ms S) : ∀ (E : Env) get, aval E get (.len (.const S)) = some (.int .i64 (ms.length : Int)) := by
  cases h with
  | sl _ hn _ _ => subst hn; intro E get; rfl
theorem rule_iaO {c : Cx} {x i : SV} {S : AV} {j l o n cap sz : Nat} (hx : D c.vs c.ls x S) (hS : S = .slice l o n cap sz) (hi : D c.vs c.ls i (.int .i64 0)) (hk : 0 < n) (hj : c.ls[j]? = some (l, o)) : RuleOk c (.ia sz x i) (.ptr j 0) := by
  subst hS
  refine ⟨_, _, .ptr l o, hx, hi, by simp only [D]; exact ⟨l, o, hj, by simp⟩, fun E get => ?_⟩
  simp only [aval, Opd.ev]
  rw [if_pos ⟨trivial, by omega, by omega⟩]; simp
end Go.Ab
end
