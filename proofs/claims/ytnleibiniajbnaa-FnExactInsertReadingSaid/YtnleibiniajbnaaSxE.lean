/- Floats: bounds of results; narrowing. -/
import Derived.Test.YtnleibiniajbnaaSxA
import Derived.Test.YtnleibiniajbnaaAbD
import Derived.Test.YtnleibiniajbnaaSxD
import Derived.Test.YtnleibiniajbnaaSxC
import Derived.Lib.Overlaps
set_option linter.unusedVariables false
set_option linter.unusedSimpArgs false
section
namespace Go.Ab
open Ieee
theorem f32_fin {s : Bool} {m : Nat} {e : Int} (h : LeP m e 126) : (FloatKind.f32.decode (FloatKind.f32.encode (.number s m e))).isInfinity = false := by
 have hb : Format.binade single = 8388608 := rfl
 have hi : Format.infRung single = 2139095040 := rfl
 have hl : Format.leastPlace single = -149 := rfl
 have hf : single.fractionBits = 23 := rfl
 show (Format.read single (Format.nearest single s m e)).isInfinity = false
 by_cases h0 : m = 0
 ·
  subst h0
  show (Format.read single (single.word s 0)).isInfinity = false
  cases s <;> decide +kernel
 ·
  have hlog := h.log h0
  have hhi : m < 2 ^ (m.log2 + 1) := Nat.lt_log2_self
  obtain ⟨L, hL⟩ : ∃ L : Int, L = max (e + m.log2 - 23) (-149) := ⟨_, rfl⟩
  obtain ⟨kept, hk⟩ : ∃ kept, kept = Toward.even.cut s (m <<< (e - L).toNat) (L - e).toNat := ⟨_, rfl⟩
  have hkle : kept ≤ 2 ^ 24 := by
   rw [hk]
   refine cut_le ?_
   rw [Nat.shiftLeft_eq]
   have h1 : m * 2 ^ (e - L).toNat ≤ 2 ^ (m.log2 + 1 + (e - L).toNat) := by
    rw [Nat.pow_add]; exact Nat.mul_le_mul_right _ (Nat.le_of_lt hhi)
   refine Nat.le_trans h1 ?_
   rw [← Nat.pow_add]
   refine Nat.pow_le_pow_right (by decide) ?_
   omega
  simp only [Nat.reducePow] at hkle
  have hr : (L + 149).toNat * 8388608 + kept < 2139095040 := by omega
  have hw : Format.nearest single s m e = single.word s ((L + 149).toNat * 8388608 + kept) := by
   unfold Format.nearest
   rw [if_neg h0]
   simp only [hf, hl, hb, hi]
   rw [show max (e + (m.log2 : Int) - ((23 : Nat) : Int)) (-149) = L from hL.symm, ← hk, show L - -149 = L + 149 by omega]
   rw [Nat.min_eq_left (Nat.le_of_lt hr)]
  rw [hw, read_num single s (by rw [hi]; exact hr)]
  split <;> rfl
def Bnd (x : Option Nat) (b : Nat) : Prop := ∃ w s m e, x = some w ∧ w < 2 ^ 64 ∧ FloatKind.f64.decode w = .number s m e ∧ LeP m e b
theorem Bnd.mono {x : Option Nat} {b c : Nat} (h : Bnd x b) (hc : b ≤ c) : Bnd x c := by
 obtain ⟨w, s, m, e, h1, h2, h3, h4⟩ := h
 exact ⟨w, s, m, e, h1, h2, h3, h4.mono hc⟩
theorem Bnd.ok {x : Option Nat} {b : Nat} (h : Bnd x b) : fOk .f64 x := by
 obtain ⟨w, s, m, e, rfl, h2, h3, h4⟩ := h
 intro c hc
 cases hc
 exact ⟨h2, by rw [h3]; rfl⟩
theorem Bnd.of {s : Bool} {m : Nat} {e : Int} {b : Nat} (h : LeP m e b) (hb : b ≤ 1022) : Bnd (some (FloatKind.f64.encode (.number s m e))) b := by
 obtain ⟨m', e', h1, h2, _⟩ := write_le (s := s) h hb
 exact ⟨_, s, m', e', rfl, FloatKind.f64.format.write_lt _, h1, h2⟩
theorem Bnd.narrow {x : Option Nat} {b : Nat} (h : Bnd x b) (hb : b ≤ 126) : ∃ y, f2f .f64 x .f32 = some y ∧ fOk .f32 y := by
 obtain ⟨w, s, m, e, rfl, h2, h3, h4⟩ := h
 have hf := f32_fin (s := s) (h4.mono hb)
 refine ⟨some (FloatKind.f32.encode (.number s m e)), ?_, ?_⟩
 ·
  show (floatToFloatBits .f64 w .f32).map some = _
  unfold floatToFloatBits
  rw [if_neg (by decide), h3]
  simp only []
  rw [hf]; rfl
 ·
  intro c hc
  cases hc
  exact ⟨FloatKind.f32.format.write_lt _, (nrm_some (nrm_write .f32 (d := .number _ _ _) rfl)).2⟩
theorem LeP.prod {m n : Nat} {i j : Int} {a b : Nat} (h : LeP m i a) (k : LeP n j b) : LeP (m * n) (i + j) (a + b) := by
 have h1 := h (-i).toNat (by omega)
 have k1 := k (-j).toNat (by omega)
 refine lep_of (K := (-i).toNat + (-j).toNat) (by omega) ?_
 unfold V at *
 have e1 : (i + j + (((-i).toNat + (-j).toNat : Nat) : Int)).toNat = (i + ((-i).toNat : Int)).toNat + (j + ((-j).toNat : Int)).toNat := by omega
 rw [e1, Nat.pow_add, show m * n * (2 ^ (i + ((-i).toNat : Int)).toNat * 2 ^ (j + ((-j).toNat : Int)).toNat) = (m * 2 ^ (i + ((-i).toNat : Int)).toNat) * (n * 2 ^ (j + ((-j).toNat : Int)).toNat) by
  rw [Nat.mul_mul_mul_comm]]
 refine Nat.le_trans (Nat.mul_le_mul h1 k1) ?_
 rw [← Nat.pow_add]
 exact Nat.pow_le_pow_right (by decide) (by omega)
theorem Bnd.mul {x y : Option Nat} {a b : Nat} (h : Bnd x a) (k : Bnd y b) (hab : a + b ≤ 1022) : Bnd (fop .mul .f64 x y) (a + b) := by
 obtain ⟨w, s, m, i, rfl, h2, h3, h4⟩ := h
 obtain ⟨v, t, n, j, rfl, k2, k3, k4⟩ := k
 have : fop .mul .f64 (some w) (some v) = some (FloatKind.f64.encode (.number (s ^^ t) (m * n) (i + j))) := by
  show ((Format.read _ w).product (Format.read _ v)).map _ = _
  rw [show Format.read FloatKind.f64.format w = .number s m i from h3, show Format.read FloatKind.f64.format v = .number t n j from k3]
  rfl
 rw [this]
 exact Bnd.of (h4.prod k4) hab
theorem signed_abs (s : Bool) (m k : Nat) : (signed s m k).natAbs = m * 2 ^ k := by
  unfold signed
  cases s
  · exact (Int.natAbs_natCast _).trans (Nat.shiftLeft_eq _ _)
  · exact (Int.natAbs_neg _).trans ((Int.natAbs_natCast _).trans (Nat.shiftLeft_eq _ _))
theorem LeP.summ {s t : Bool} {m n : Nat} {i j : Int} {a b c : Nat} (h : LeP m i a) (k : LeP n j b) (ha : a < c) (hb : b < c) : LeP (signed s m (i - min i j).toNat + signed t n (j - min i j).toNat).natAbs (min i j) c := by
 obtain ⟨K, hK⟩ : ∃ K : Nat, K = (-i).toNat + (-j).toNat := ⟨_, rfl⟩
 have h1 := h K (by omega)
 have k1 := k K (by omega)
 refine lep_of (K := K) (by omega) ?_
 unfold V at *
 have e := Int.natAbs_add_le (signed s m (i - min i j).toNat) (signed t n (j - min i j).toNat)
 rw [signed_abs, signed_abs] at e
 refine Nat.le_trans (Nat.mul_le_mul_right _ e) ?_
 rw [Nat.add_mul, Nat.mul_assoc, Nat.mul_assoc, ← Nat.pow_add, ← Nat.pow_add, show (i - min i j).toNat + (min i j + (K : Int)).toNat = (i + K).toNat by omega, show (j - min i j).toNat + (min i j + (K : Int)).toNat = (j + K).toNat by omega]
 have p1 : 2 ^ (a + K) ≤ 2 ^ (c - 1 + K) := Nat.pow_le_pow_right (by decide) (by omega)
 have p2 : 2 ^ (b + K) ≤ 2 ^ (c - 1 + K) := Nat.pow_le_pow_right (by decide) (by omega)
 have p3 : 2 ^ (c + K) = 2 ^ (c - 1 + K) * 2 := by rw [← Nat.pow_succ]; congr 1; omega
 omega
theorem Bnd.sub {x y : Option Nat} {a b c : Nat} (h : Bnd x a) (k : Bnd y b) (ha : a < c) (hb : b < c) (hc : c ≤ 1022) : Bnd (fop .sub .f64 x y) c := by
 obtain ⟨w, s, m, i, rfl, h2, h3, h4⟩ := h
 obtain ⟨v, t, n, j, rfl, k2, k3, k4⟩ := k
 have : fop .sub .f64 (some w) (some v) = some (FloatKind.f64.encode (.number (if signed s m (i - min i j).toNat + signed (!t) n (j - min i j).toNat = 0 then s && !t else signed s m (i - min i j).toNat + signed (!t) n (j - min i j).toNat < 0) (signed s m (i - min i j).toNat + signed (!t) n (j - min i j).toNat).natAbs (min i j))) := by
  show ((Format.read _ w).sum (Format.read _ v).opposite).map _ = _
  rw [show Format.read FloatKind.f64.format w = .number s m i from h3, show Format.read FloatKind.f64.format v = .number t n j from k3]
  rfl
 rw [this]
 exact Bnd.of (h4.summ k4 ha hb) hc
theorem Bnd.add {x y : Option Nat} {a b c : Nat} (h : Bnd x a) (k : Bnd y b) (ha : a < c) (hb : b < c) (hc : c ≤ 1022) : Bnd (fop .add .f64 x y) c := by
 obtain ⟨w, s, m, i, rfl, h2, h3, h4⟩ := h
 obtain ⟨v, t, n, j, rfl, k2, k3, k4⟩ := k
 have : fop .add .f64 (some w) (some v) = some (FloatKind.f64.encode (.number (if signed s m (i - min i j).toNat + signed t n (j - min i j).toNat = 0 then s && t else signed s m (i - min i j).toNat + signed t n (j - min i j).toNat < 0) (signed s m (i - min i j).toNat + signed t n (j - min i j).toNat).natAbs (min i j))) := by
  show ((Format.read _ w).sum (Format.read _ v)).map _ = _
  rw [show Format.read FloatKind.f64.format w = .number s m i from h3, show Format.read FloatKind.f64.format v = .number t n j from k3]
  rfl
 rw [this]
 exact Bnd.of (h4.summ k4 ha hb) hc
theorem Bnd.quo {x : Option Nat} {a v n : Nat} {t : Bool} {j : Int} (h : Bnd x a) (k3 : FloatKind.f64.decode v = .number t n j) (hn : n ≠ 0) (h1 : ∀ K : Nat, 0 ≤ j + K → 2 ^ K ≤ n * 2 ^ (j + K).toNat) (ha : a + 1 ≤ 1022) : Bnd (fop .quo .f64 x (some v)) (a + 1) := by
 obtain ⟨w, s, m, i, rfl, h2, h3, h4⟩ := h
 obtain ⟨more, hmore⟩ : ∃ more, more = 54 + n.log2 - m.log2 := ⟨_, rfl⟩
 have : fop .quo .f64 (some w) (some v) = some (FloatKind.f64.encode (.number (s ^^ t) (2 * (m <<< more / n) + (m <<< more % n != 0).toNat) (i - j - more - 1))) := by
  show ((Format.read _ w).quotient _ (Format.read _ v)).map _ = _
  rw [show Format.read FloatKind.f64.format w = .number s m i from h3, show Format.read FloatKind.f64.format v = .number t n j from k3]
  show (if n = 0 then _ else _ : Option Datum).map _ = _
  rw [if_neg hn, hmore]
  rfl
 rw [this]
 refine Bnd.of ?_ ha
 obtain ⟨K1, hK1⟩ : ∃ K1 : Nat, K1 = (-(i - j - more - 1)).toNat := ⟨_, rfl⟩
 obtain ⟨K2, hK2⟩ : ∃ K2 : Nat, K2 = (-j).toNat + (-(i - more - 1)).toNat + (-i).toNat := ⟨_, rfl⟩
 refine lep_of (K := K1) (by omega) ?_
 unfold V
 have hv := h4 (K1 + K2) (by omega)
 unfold V at hv
 have hd := h1 K2 (by omega)
 have hdm := Nat.div_mul_le_self (m <<< more) n
 rw [Nat.shiftLeft_eq] at hdm ⊢
 by_cases h0 : m = 0
 ·
  subst h0
  simp
 ·
  -- at least one whole
  have hq : 1 ≤ m * 2 ^ more / n := by
   rw [Nat.le_div_iff_mul_le (Nat.pos_of_ne_zero hn), Nat.one_mul]
   have e1 : n < 2 ^ (n.log2 + 1) := Nat.lt_log2_self
   have e2 : 2 ^ m.log2 ≤ m := Nat.log2_self_le h0
   have e3 : 2 ^ (n.log2 + 1) ≤ 2 ^ (m.log2 + more) := Nat.pow_le_pow_right (by decide) (by omega)
   have e4 : 2 ^ m.log2 * 2 ^ more ≤ m * 2 ^ more := Nat.mul_le_mul_right _ e2
   rw [← Nat.pow_add] at e4
   omega
  have hb : (m * 2 ^ more % n != 0).toNat ≤ 1 := by cases (m * 2 ^ more % n != 0) <;> decide
  obtain ⟨q, hqe⟩ : ∃ q, q = m * 2 ^ more / n := ⟨_, rfl⟩
  obtain ⟨r, hre⟩ : ∃ r, r = 2 * q + (m * 2 ^ more % n != 0).toNat := ⟨_, rfl⟩
  rw [← hqe] at hq hdm
  rw [← hqe, ← hre]
  have hr4 : r ≤ 4 * q := by omega
  -- r * n * 2 ^ .. against m
  have key : r * 2 ^ (i - j - more - 1 + (K1 : Int)).toNat * (n * 2 ^ (j + (K2 : Int)).toNat) ≤ 2 ^ (a + 1 + K1) * 2 ^ K2 := by
   have e1 : r * 2 ^ (i - j - more - 1 + (K1 : Int)).toNat * (n * 2 ^ (j + (K2 : Int)).toNat) = (r * n) * 2 ^ (i - more - 1 + (K1 : Int) + (K2 : Int)).toNat := by
    rw [Nat.mul_mul_mul_comm, ← Nat.pow_add]
    congr 2; omega
   rw [e1]
   have e2 : r * n ≤ 4 * (m * 2 ^ more) := by
    refine Nat.le_trans (Nat.mul_le_mul_right n hr4) ?_
    rw [Nat.mul_assoc]
    exact Nat.mul_le_mul_left 4 hdm
   refine Nat.le_trans (Nat.mul_le_mul_right _ e2) ?_
   have e3 : 4 * (m * 2 ^ more) * 2 ^ (i - more - 1 + (K1 : Int) + (K2 : Int)).toNat = 2 * (m * 2 ^ (i + ((K1 + K2 : Nat) : Int)).toNat) := by
    have e4 : 2 ^ more * 2 ^ (i - more - 1 + (K1 : Int) + (K2 : Int)).toNat * 2 = 2 ^ (i + ((K1 + K2 : Nat) : Int)).toNat := by
     rw [← Nat.pow_add, ← Nat.pow_succ]; congr 1; omega
    rw [← e4]
    generalize 2 ^ more = A
    generalize 2 ^ (i - more - 1 + (K1 : Int) + (K2 : Int)).toNat = B
    have x1 : 4 * (m * A) * B = 4 * (m * (A * B)) := by rw [Nat.mul_assoc 4, Nat.mul_assoc m]
    have x2 : m * (A * B * 2) = m * (A * B) * 2 := (Nat.mul_assoc _ _ _).symm
    rw [x1, x2]
    omega
   rw [e3, ← Nat.pow_add]
   have e5 : 2 ^ (a + 1 + K1 + K2) = 2 * 2 ^ (a + (K1 + K2)) := by rw [← Nat.pow_succ']; congr 1; omega
   rw [e5]
   exact Nat.mul_le_mul_left 2 hv
  have : r * 2 ^ (i - j - more - 1 + (K1 : Int)).toNat * 2 ^ K2 ≤ 2 ^ (a + 1 + K1) * 2 ^ K2 := Nat.le_trans (Nat.mul_le_mul_left _ hd) key
  exact Nat.le_of_mul_le_mul_right this (Nat.two_pow_pos K2)
end Go.Ab
end
/- Floats: square roots are not too great. -/
section
namespace Go.Ab
open Ieee
end Go.Ab
end
/- Floats: exact writing; integral values; angles without whole turns. -/
section
namespace Go.Ab
open Ieee
end Go.Ab
end
/- Floats: sines, cosines, angles without whole turns: values and bounds. -/
section
namespace Go.Ab
open Ieee
theorem negF_dec {w m : Nat} {s : Bool} {e : Int} (h : FloatKind.f64.decode w = .number s m e) : FloatKind.f64.decode (Op.negFloat .f64 w) = .number (!s) m e := by
 have hx : Op.negFloat .f64 w = w ^^^ 2 ^ 63 := rfl
 have hs : Format.signWeight FloatKind.f64.format = 2 ^ 63 := rfl
 have hr : (w ^^^ 2 ^ 63) % 2 ^ 63 = w % 2 ^ 63 := by
  rw [Nat.xor_mod_two_pow, Nat.mod_self, Nat.xor_zero]
 have hb : ((w ^^^ 2 ^ 63) / 2 ^ 63 % 2 == 1) = !(w / 2 ^ 63 % 2 == 1) := by
  have t := Nat.testBit_xor w (2 ^ 63) 63
  rw [Nat.testBit_two_pow_self, Nat.testBit_eq_decide_div_mod_eq, Nat.testBit_eq_decide_div_mod_eq, Bool.xor_true] at t
  exact t
 rw [hx]
 have h : Format.read FloatKind.f64.format w = .number s m e := h
 show Format.read FloatKind.f64.format (w ^^^ 2 ^ 63) = _
 unfold Format.read at h ⊢
 simp only [hs] at h ⊢
 rw [hr, hb]
 split at h
 ·
  rename_i h1; rw [if_pos h1]; cases h; rfl
 ·
  rename_i h1
  rw [if_neg h1]
  split at h
  ·
   rename_i h2; rw [if_pos h2]; cases h; rfl
  ·
   split at h <;> cases h
theorem Bnd.neg {x : Option Nat} {b : Nat} (h : Bnd x b) : Bnd (negA .f64 x) b := by
 obtain ⟨w, s, m, e, rfl, h2, h3, h4⟩ := h
 exact ⟨_, !s, m, e, rfl, Nat.xor_lt_two_pow h2 (by decide), negF_dec h3, h4⟩
theorem Bnd.lit {w : Nat} {b : Nat} (h : w < 2 ^ 64) {s : Bool} {m : Nat} {e : Int} (hd : FloatKind.f64.decode w = .number s m e) {K : Nat} (hK : 0 ≤ e + K) (hv : V m e K ≤ 2 ^ (b + K)) : Bnd (some w) b := ⟨w, s, m, e, rfl, h, hd, lep_of hK hv⟩
end Go.Ab
end
/- Floats: absolute values, limits, quotients that are numbers, integers out of floats. -/
section
namespace Go.Ab
open Ieee
end Go.Ab
end
/- Floats: nought and a number; products in either order. -/
section
namespace Go.Ab
open Ieee
end Go.Ab
end
/- Floats: signs; numbers that are equal. -/
section
namespace Go.Ab
open Ieee
end Go.Ab
end
/- Remainders by words that are not literals. -/
section
namespace Go.Ab
end Go.Ab
end
/- Slices without their first element; outcomes that are alike. -/
section
namespace Go.Ab
theorem SlL.isSlC {H : AHeap} {sz : Nat} {ms : List (List AV)} {S : AV} (h : SlL H sz ms S) {i : Nat} (hi : i < ms.length) : ∃ l cap rest wr, S = .slice l 0 ms.length cap sz ∧ H.get l = some (.row (ms.flatten ++ rest) wr) ∧ ms.length ≤ cap := by
 cases h with
 | nil h => rw [h] at hi; simp at hi
 | @sl l n cap rest wr hg hn hc => subst hn; exact ⟨l, cap, rest, wr, rfl, hg, hc⟩
end Go.Ab
end
/- Distances in a graph: breadth first, and by rounds over the links. -/
section
namespace Go.Ab
def conn (e : Nat × Nat) (u v : Nat) : Prop := (e.1 = u ∧ e.2 = v) ∨ (e.1 = v ∧ e.2 = u)
structure BInv (es : List (Nat × Nat)) (n a : Nat) (fl : List (Nat × Nat)) : Prop where
  nd : (fl.map Prod.fst).Nodup
  lt : ∀ p ∈ fl, p.1 < n
  h0 : fl[0]? = some (a, 0)
  z : ∀ p ∈ fl, p.2 = 0 → p.1 = a
  srt : ∀ (j j' : Nat) (p q : Nat × Nat), j ≤ j' → fl[j]? = some p → fl[j']? = some q → p.2 ≤ q.2
  le : ∀ (j : Nat) (p : Nat × Nat), fl[j]? = some p → p.2 ≤ j
  p1 : ∀ p ∈ fl, ∀ d, p.2 = d + 1 → ∃ u, (u, d) ∈ fl ∧ ∃ e ∈ es, conn e u p.1
theorem get_lt {α : Type} {l : List α} {q : α} {j : Nat} (h : l[j]? = some q) : j < l.length := by
  rcases Nat.lt_or_ge j l.length with hj | hj
  · exact hj
  · rw [List.getElem?_eq_none hj] at h; cases h
/-! rounds -/
/-! lists of words -/
end Go.Ab
end
/- Maps of words to words; queues: slices that fill their rows from some place on. -/
section
namespace Go.Ab
def mpT (fl : List (Nat × Nat)) : List (AV × AV) := fl.map fun p => (.int .i64 (p.1 : Int), .int .i64 (p.2 : Int))
inductive MpF (H : AHeap) (fl : List (Nat × Nat)) : AV → Prop where
  | mk {l : Nat} (hg : H.get l = some (.mp (mpT fl))) : MpF H fl (.slice l 0 0 0 1)
inductive SlV (H : AHeap) (sz : Nat) (ms : List (List AV)) : AV → Prop where
  | sl {l o n cap : Nat} {pre : List AV} (hg : H.get l = some (.row (pre ++ ms.flatten) true)) (hn : ms.length = n) (hc : n ≤ cap) (ho : pre.length = o) : SlV H sz ms (.slice l o n cap sz)
section
variable {H H' : AHeap} {sz : Nat} {ms : List (List AV)} {S : AV} {fl : List (Nat × Nat)}
theorem MpF.grew (g : Grew H H') (h : MpF H fl S) : MpF H' fl S := by
 cases h with
 | mk hg => exact .mk (g.at hg)
theorem MpF.lt (h : MpF H fl S) : ∀ l, AtS S l → l < H.next := by
 intro l hl
 cases h with
 | mk hg => rw [atS hl]; exact H.lt_of_get hg
theorem MpF.only {S1 : AV} (h : MpF H fl S) (k : OnlyS S1 H H') (hn : ApartS S S1) : MpF H' fl S := by
 cases h with
 | mk hg => exact .mk (k.at hg ⟨hn.ne _ ⟨_, _, _, _, rfl⟩⟩)
theorem MpF.apart_new (h : MpF H fl S) {l : Nat} (hl : H.next ≤ l) : ApartL S l := ⟨fun ha => Nat.lt_irrefl _ (Nat.lt_of_lt_of_le (h.lt l ha) hl)⟩
theorem MpF.keep {f : Nat} {ws : List Win} (h : MpF H fl S) (hk : Kept f (winLs ws) H H') (hn : NotS S (ws.drop f)) : MpF H' fl S := by
 cases h with
 | @mk l hg =>
  refine .mk (kept_at hk hg ?_)
  generalize ws.drop f = us at hn
  induction us with
  | nil => trivial
  | cons w us ih => exact ⟨⟨fun e => hn.1.ne ⟨_, _, _, _, by rw [e]⟩⟩, ih hn.2⟩
theorem SlV.grew (g : Grew H H') (h : SlV H sz ms S) : SlV H' sz ms S := by
 cases h with
 | sl hg hn hc ho => exact .sl (g.at hg) hn hc ho
theorem SlV.lt (h : SlV H sz ms S) : ∀ l, AtS S l → l < H.next := by
 intro l hl
 cases h with
 | sl hg => rw [atS hl]; exact H.lt_of_get hg
theorem SlV.only {S1 : AV} (h : SlV H sz ms S) (k : OnlyS S1 H H') (hn : ApartS S S1) : SlV H' sz ms S := by
 cases h with
 | sl hg h1 h2 h3 => exact .sl (k.at hg ⟨hn.ne _ ⟨_, _, _, _, rfl⟩⟩) h1 h2 h3
theorem SlV.apart_new (h : SlV H sz ms S) {l : Nat} (hl : H.next ≤ l) : ApartL S l := ⟨fun ha => Nat.lt_irrefl _ (Nat.lt_of_lt_of_le (h.lt l ha) hl)⟩
theorem SlV.one (h : SlV H sz ms S) : S.one = true := by cases h; rfl
theorem SlV.keep {f : Nat} {ws : List Win} (h : SlV H sz ms S) (hk : Kept f (winLs ws) H H') (hn : NotS S (ws.drop f)) : SlV H' sz ms S := by
 cases h with
 | @sl l o n cap pre hg h1 h2 h3 =>
  refine .sl (kept_at hk hg ?_) h1 h2 h3
  generalize ws.drop f = us at hn
  induction us with
  | nil => trivial
  | cons w us ih => exact ⟨⟨fun e => hn.1.ne ⟨_, _, _, _, by rw [e]⟩⟩, ih hn.2⟩
end
section
variable {E : Env} {H : AHeap} {t y l v d : Nat} {fl : List (Nat × Nat)} {z : AV}
end
/-! the queue of a search: what has not been looked at -/
def qT (fl : List (Nat × Nat)) (k : Nat) : List (List AV) := (fl.drop k).map fun p => [.int .i64 (p.1 : Int)]
theorem qT_cons {fl : List (Nat × Nat)} {k : Nat} {p : Nat × Nat} (h : fl[k]? = some p) : qT fl k = [.int .i64 (p.1 : Int)] :: qT fl (k + 1) := by
 have hk := get_lt h
 unfold qT
 rw [List.drop_eq_getElem_cons hk]
 rw [List.getElem?_eq_getElem hk] at h
 cases h
 rfl
theorem SlV.head {H : AHeap} {S : AV} {fl : List (Nat × Nat)} {k : Nat} {p : Nat × Nat} (h : SlV H 1 (qT fl k) S) (hp : fl[k]? = some p) : ∃ l o n cap pre post, S = .slice l o n cap 1 ∧ H.get l = some (.row (pre ++ ([.int .i64 (p.1 : Int)] ++ post)) true) ∧ pre.length = o ∧ 0 < n := by
 rw [qT_cons hp] at h
 cases h with
 | @sl l o n cap pre hg hn hc ho => exact ⟨l, o, n, cap, pre, _, rfl, hg, ho, by subst hn; simp⟩
theorem SlV.tail {H : AHeap} {S : AV} {fl : List (Nat × Nat)} {k : Nat} {p : Nat × Nat} (h : SlV H 1 (qT fl k) S) (hp : fl[k]? = some p) : ∃ V, SlV H 1 (qT fl (k + 1)) V ∧ (∀ l, AtS V l → AtS S l) ∧ ∀ (E : Env) get, aval E get (.slSl 1 (.const S) (some (.const (.int .i64 1))) none none) = some V := by
 rw [qT_cons hp] at h
 cases h with
 | @sl l o n cap pre hg hn hc ho =>
  subst hn
  refine ⟨.slice l (o + 1 * 1) (([AV.int .i64 (p.1 : Int)] :: qT fl (k + 1)).length - 1) (cap - 1) 1, .sl (pre := pre ++ [.int .i64 (p.1 : Int)]) (by rw [hg]; simp) (by simp) (by simp at hc ⊢; omega) (by simp [ho]), fun l' hl' => ?_, fun E get => ?_⟩
  ·
   rw [atS hl']; exact ⟨_, _, _, _, rfl⟩
  ·
   simp only [aval, Opd.ev, Option.map_some, Option.map_none]
   rw [if_pos trivial]
   have : bnds ([AV.int .i64 (p.1 : Int)] :: qT fl (k + 1)).length cap (some (.int .i64 1)) none none = some (1, ([AV.int .i64 (p.1 : Int)] :: qT fl (k + 1)).length, cap) := by
    simp only [List.length_cons] at hc
    simp only [bnds, bnd, List.length_cons]
    rw [if_pos ⟨by omega, by simp; omega⟩]
    simp [hc]
   rw [this]
theorem SlV.len {H : AHeap} {S : AV} {ms : List (List AV)} {sz : Nat} (h : SlV H sz ms S) : ∀ (E : Env) get, aval E get (.len (.const S)) = some (.int .i64 (ms.length : Int)) := by
 cases h with
 | sl _ hn _ _ => subst hn; intro E get; rfl
end Go.Ab
end
/- Room behind a row; zeros appended; copies; whether two slices lie over each other. -/
section
namespace Go.Ab
section
variable {P : Program} {μ : Mu} {F : Nat → Prop} {H : AHeap} {w : World}
end
section
variable {P : Program} {o : Pt} {d : Option Nat} {Q : AExit → Env → AHeap → Prop} {E : Env} {H : AHeap}
theorem q_eff' {op : AOp} (hq : op.quiet = true) {r : AV} (hv : aval E H.get op = some r) {k : AV → AHeap → Prop} (h : k r H) : aeff P E H k op := by
 cases op <;> first | (cases hq; done) | (simp only [aeff]; rw [hv]; exact h)
theorem res_q {op : AOp} (ho : o = .ops (⟨d, op, none⟩ :: ptRest o) (ptFr o)) (hq : op.quiet = true) {r : AV} (ha : aval E H.get op = some r) (h : Res P (.ops (ptRest o) (ptFr o)) Q (E.put d r) H) : Res P o Q E H := by
 rw [ho]
 simp only [Res, arun]
 exact q_eff' hq ha h
def ptRestM : Pt → List AOper
 | .mixq (_ :: rest) _ _ => rest
 | _ => []
def ptKids : Pt → AKids
 | .mixq _ k _ => k
 | _ => .nil
theorem res_qM {op : AOp} (ho : o = .mixq (⟨d, op, none⟩ :: ptRestM o) (ptKids o) (ptFr o)) (hq : op.quiet = true) {r : AV} (ha : aval E H.get op = some r) (h : Res P (.mixq (ptRestM o) (ptKids o) (ptFr o)) Q (E.put d r) H) : Res P o Q E H := by
 rw [ho]
 simp only [Res, arun]
 exact q_eff' hq ha h
theorem sub_val {t l o' n c z : Nat} {lo hi : Option Opd} {a b : Nat} (h : E t = .slice l o' n c z) (hlo : lo.map (fun x : Opd => x.ev E) = none ∧ a = 0 ∨ lo.map (fun x : Opd => x.ev E) = some (.int .i64 (a : Int))) (hhi : hi.map (fun x : Opd => x.ev E) = none ∧ b = n ∨ hi.map (fun x : Opd => x.ev E) = some (.int .i64 (b : Int))) (hab : a ≤ b) (hbc : b ≤ c) :
  aval E H.get (.slSl z (.tmp t) lo hi none) = some (.slice l (o' + a * z) (b - a) (c - a) z) := by
 show (match E t with
  | .slice l o len cap sz' => if z = sz' then
    match bnds len cap (lo.map (fun x : Opd => x.ev E)) (hi.map (fun x : Opd => x.ev E)) none with
    | some (a, h, m) => some (AV.slice l (o + a * z) (h - a) (m - a) z)
    | none => none
   else none
  | .nilslice => match bnds 0 0 (lo.map (fun x : Opd => x.ev E)) (hi.map (fun x : Opd => x.ev E)) none with
   | some _ => some .nilslice
   | none => none
  | _ => none) = _
 rw [h]
 simp only []
 rw [if_pos trivial]
 have e1 : bnd none c c = some c := rfl
 have e2 : bnd (hi.map (fun x : Opd => x.ev E)) n c = some b := by
  rcases hhi with ⟨h1, rfl⟩ | h1
  ·
   rw [h1]; rfl
  ·
   rw [h1]
   simp only [bnd]
   rw [if_pos ⟨by omega, by omega⟩]
   simp
 have e3 : bnd (lo.map (fun x : Opd => x.ev E)) 0 b = some a := by
  rcases hlo with ⟨h1, rfl⟩ | h1
  ·
   rw [h1]; rfl
  ·
   rw [h1]
   simp only [bnd]
   rw [if_pos ⟨by omega, by omega⟩]
   simp
 have : bnds n c (lo.map (fun x : Opd => x.ev E)) (hi.map (fun x : Opd => x.ev E)) none = some (a, b, c) := by
  unfold bnds
  simp only []
  rw [e1]
  simp only []
  rw [e2]
  simp only []
  rw [e3]
 rw [this]
theorem src_part {get : Nat → Option HB} {sz l o' n cap : Nat} {cs : List AV} {wr : Bool} (hg : get l = some (.row cs wr)) (hn : n ≠ 0) (h : o' + n * sz ≤ cs.length) : srcCells get sz (.slice l o' n cap sz) = some ((cs.drop o').take (n * sz), n) := by
 simp only [srcCells]
 rw [if_pos trivial, if_neg hn, hg]
 simp only []
 rw [if_pos h]
end
end Go.Ab
namespace Go.Ab
theorem flat_len_z {z : Nat} : ∀ {ms : List (List AV)}, (∀ m ∈ ms, m.length = z) → ms.flatten.length = ms.length * z
 | [], _ => by simp
 | m :: ms, h => by
  rw [List.flatten_cons, List.length_append, flat_len_z (fun x hx => h x (List.mem_cons_of_mem _ hx)), h m (by simp), List.length_cons, Nat.succ_mul]
  omega
theorem flat_take_z {z : Nat} {ms : List (List AV)} (h : ∀ m ∈ ms, m.length = z) (i : Nat) (hi : i ≤ ms.length) : ms.flatten.take (i * z) = (ms.take i).flatten := by
 have e : ms.flatten = (ms.take i).flatten ++ (ms.drop i).flatten := by rw [← List.flatten_append, List.take_append_drop]
 have hl : (ms.take i).flatten.length = i * z := by
  rw [flat_len_z (fun m hm => h m (List.mem_of_mem_take hm)), List.length_take, Nat.min_eq_left hi]
 rw [e, List.take_left' hl]
theorem flat_drop_z {z : Nat} {ms : List (List AV)} (h : ∀ m ∈ ms, m.length = z) (i : Nat) (hi : i ≤ ms.length) : ms.flatten.drop (i * z) = (ms.drop i).flatten := by
 have e : ms.flatten = (ms.take i).flatten ++ (ms.drop i).flatten := by rw [← List.flatten_append, List.take_append_drop]
 have hl : (ms.take i).flatten.length = i * z := by
  rw [flat_len_z (fun m hm => h m (List.mem_of_mem_take hm)), List.length_take, Nat.min_eq_left hi]
 rw [e, List.drop_left' hl]
section
variable {F R Z m : List AV} {n i z : Nat}
end
theorem SlF.row {H : AHeap} {z : Nat} {ms : List (List AV)} {l o n c : Nat} (h : SlF H z ms (.slice l o n c z)) : H.get l = some (.row ms.flatten true) := by cases h with | sl hg _ _ => exact hg
theorem FromS.mono {a b : Nat} {S S' : AV} (h : FromS b S S') (hab : a ≤ b) : FromS a S S' := ⟨fun l hl => (h.at_ l hl).imp (fun x => Nat.le_trans hab x) id⟩
end Go.Ab
end
/- A row and a slice that change together; parts of lists as sources of appends. -/
section
namespace Go.Ab
theorem Only2.refl (S T : AV) (H : AHeap) : Only2 S T H H := ⟨Nat.le_refl _, fun _ _ _ _ => rfl⟩
theorem Only2.trans {S T : AV} {A B C : AHeap} (h : Only2 S T A B) (k : OnlyS T B C) : Only2 S T A C := ⟨Nat.le_trans h.next k.next, fun l hl h1 h2 => (k.get l (Nat.lt_of_lt_of_le hl h.next) h2).trans (h.get l hl h1 h2)⟩
def OwnM (p : Nat) (H : AHeap) : List Win → Prop
 | [] => True
 | w :: ws => (w.l = p ∨ H.next ≤ w.l) ∧ OwnM p H ws
theorem OwnM.get {p : Nat} {H : AHeap} : ∀ {ws : List Win}, OwnM p H ws → ∀ (j l b : Nat), (winLs ws)[j]? = some (l, b) → l = p ∨ H.next ≤ l
 | [], _, j, l, b, e => by simp [winLs] at e
 | w :: ws, h, 0, l, b, e => by simp [winLs] at e; rw [← e.1]; exact h.1
 | w :: ws, h, j + 1, l, b, e => by
  simp only [winLs, List.map_cons, List.getElem?_cons_succ] at e
  exact OwnM.get h.2 j l b e
section
variable {P : Program} {o : Pt} {d : Option Nat} {n : Nat} {x y : Opd} {Q : AExit → Env → AHeap → Prop} {E : Env} {H : AHeap} {S : AV} {sz k l cap : Nat} {ms : List (List AV)} {m' : List AV}
theorem ar_storeSF {rest : List AOper} {K : Env → AHeap → Prop} (hS : SlF H sz ms S) (hE : S = .slice l 0 ms.length cap sz) (hx : x.ev E = .ptr l (k * sz)) (hk : k < ms.length) (hm : ∀ m ∈ ms, m.length = sz) (hy : (y.ev E).cells = some m') (hn : m'.length = n) (hz : n = sz) (h1 : m'.all AV.one = true)
  (h : ∀ H', SlF H' sz (ms.set k m') S → OnlyS S H H' → arun P rest (E.put d .undef) H' K) : arun P (⟨d, .store n x y, none⟩ :: rest) E H K := by
 subst hE
 cases hS with
 | sl hg hn2 hc =>
  have hg' : H.get l = some (.row (ms.flatten ++ []) true) := by simpa using hg
  refine ar_store hx hg' hy hn (by rw [hz]; exact flat_room hm hk []) h1 rfl ?_
  rw [flat_set hm hk (by omega), List.append_nil]
  refine h _ ?_ (.of_only ((Only.refl l H).put _))
  exact .sl (put_at hg) (by simp) hc
theorem res_storeSF (ho : o = .ops (⟨d, .store n x y, none⟩ :: ptRest o) (ptFr o)) (hS : SlF H sz ms S) (hE : S = .slice l 0 ms.length cap sz) (hx : x.ev E = .ptr l (k * sz)) (hk : k < ms.length) (hm : ∀ m ∈ ms, m.length = sz) (hy : (y.ev E).cells = some m') (hn : m'.length = n) (hz : n = sz) (h1 : m'.all AV.one = true)
  (h : ∀ H', SlF H' sz (ms.set k m') S → OnlyS S H H' → Res P (.ops (ptRest o) (ptFr o)) Q (E.put d .undef) H') : Res P o Q E H := by
 rw [ho]
 exact ar_storeSF hS hE hx hk hm hy hn hz h1 h
theorem res_storeSFK (ho : o = .kids (.cons true ⟨d, .store n x y, none⟩ (.node (kQs o) (kKids o)) .nil) (ptFr o)) (hS : SlF H sz ms S) (hE : S = .slice l 0 ms.length cap sz) (hx : x.ev E = .ptr l (k * sz)) (hk : k < ms.length) (hm : ∀ m ∈ ms, m.length = sz) (hy : (y.ev E).cells = some m') (hn : m'.length = n) (hz : n = sz) (h1 : m'.all AV.one = true)
  (h : ∀ H', SlF H' sz (ms.set k m') S → OnlyS S H H' → Res P (.mixq (kQs o) (kKids o) (ptFr o)) Q (E.put d .undef) H') : Res P o Q E H := by
 rw [ho]
 refine mk_one (ar_storeSF hS hE hx hk hm hy hn hz h1 fun H' a b => ?_)
 refine ar_nil ⟨.inl rfl, ?_⟩
 simp only [amix]
 exact h H' a b
end
structure PartS (H : AHeap) (z : Nat) (ys : List (List AV)) (V : AV) : Prop where
  one : V.one = true
  src : ∀ H', Grew H H' → srcCells H'.get z V = some (ys.flatten, ys.length)
theorem sub_list {H : AHeap} {z : Nat} {ms : List (List AV)} {S : AV} (hm : ∀ m ∈ ms, m.length = z) (hS : SlL H z ms S) (a b : Nat) (hab : a ≤ b) (hb : b ≤ ms.length) : ∃ V, PartS H z ((ms.take b).drop a) V ∧
  ∀ (E : Env) (H' : AHeap) (t : Nat) (lo hi : Option Opd), E t = S → (lo.map (fun x : Opd => x.ev E) = none ∧ a = 0 ∨ lo.map (fun x : Opd => x.ev E) = some (.int .i64 (a : Int))) → (hi.map (fun x : Opd => x.ev E) = none ∧ b = ms.length ∨ hi.map (fun x : Opd => x.ev E) = some (.int .i64 (b : Int))) → aval E H'.get (.slSl z (.tmp t) lo hi none) = some V := by
 cases hS with
 | nil h =>
  subst h
  obtain rfl : b = 0 := by simpa using hb
  obtain rfl : a = 0 := by omega
  refine ⟨.nilslice, ⟨rfl, fun H' _ => rfl⟩, fun E H' t lo hi hE hlo hhi => ?_⟩
  show (match E t with
   | .slice l o len cap sz' => if z = sz' then
     match bnds len cap (lo.map (fun x : Opd => x.ev E)) (hi.map (fun x : Opd => x.ev E)) none with
     | some (a, h, m) => some (AV.slice l (o + a * z) (h - a) (m - a) z)
     | none => none
    else none
   | .nilslice => match bnds 0 0 (lo.map (fun x : Opd => x.ev E)) (hi.map (fun x : Opd => x.ev E)) none with
    | some _ => some .nilslice
    | none => none
   | _ => none) = _
  rw [hE]
  simp only []
  have e2 : bnd (hi.map (fun x : Opd => x.ev E)) 0 0 = some 0 := by
   rcases hhi with ⟨h1, _⟩ | h1
   ·
    rw [h1]; rfl
   ·
    rw [h1]; rfl
  have e3 : bnd (lo.map (fun x : Opd => x.ev E)) 0 0 = some 0 := by
   rcases hlo with ⟨h1, _⟩ | h1
   ·
    rw [h1]; rfl
   ·
    rw [h1]; rfl
  have : bnds 0 0 (lo.map (fun x : Opd => x.ev E)) (hi.map (fun x : Opd => x.ev E)) none = some (0, 0, 0) := by
   unfold bnds
   simp only []
   rw [show bnd none 0 0 = some 0 from rfl]
   simp only []
   rw [e2]
   simp only []
   rw [e3]
  rw [this]
 | @sl l n cap rest wr hg hn hc =>
  subst hn
  have hlen := flat_len_z hm
  have hys : ((ms.take b).drop a).length = b - a := by rw [List.length_drop, List.length_take]; omega
  have hys2 : ((ms.take b).drop a).flatten = ((ms.flatten ++ rest).drop (a * z)).take ((b - a) * z) := by
   have h1 : (ms.take b).flatten = ms.flatten.take (b * z) := (flat_take_z hm b hb).symm
   have h2 : ((ms.take b).drop a).flatten = (ms.take b).flatten.drop (a * z) := (flat_drop_z (fun m h => hm m (List.mem_of_mem_take h)) a (by rw [List.length_take]; omega)).symm
   have h3 : a * z ≤ b * z := Nat.mul_le_mul_right z hab
   have h4 : b * z ≤ ms.length * z := Nat.mul_le_mul_right z hb
   rw [h2, h1, List.drop_take, ← Nat.sub_mul, List.drop_append_of_le_length (by omega), List.take_append_of_le_length (by rw [List.length_drop, Nat.sub_mul]; omega)]
  refine ⟨.slice l (a * z) (b - a) (cap - a) z, ⟨rfl, fun H' g => ?_⟩, fun E H' t lo hi hE hlo hhi => ?_⟩
  ·
   by_cases h0 : b - a = 0
   ·
    have : (ms.take b).drop a = [] := List.eq_nil_of_length_eq_zero (by omega)
    rw [this, h0]
    simp [srcCells]
   ·
    have h3 : (a + (b - a)) * z ≤ ms.length * z := Nat.mul_le_mul_right z (by omega)
    rw [Nat.add_mul] at h3
    rw [src_part (g.at hg) h0 (by rw [List.length_append]; omega), hys2, hys]
  ·
   have := sub_val (H := H') (a := a) (b := b) hE hlo hhi hab (by omega)
   simpa using this
end Go.Ab
namespace Go.Ab
theorem Sim.cut {F : Nat → Prop} {μ : Mu} {H : AHeap} {w : World} (hs : Sim F μ H w) {l : Nat} {A B : List AV} {wr : Bool} (hg : H.get l = some (.row (A ++ B) wr)) : Sim F μ (H.put l (.row A wr)) w := by
 have hln : l < H.next := H.lt_of_get hg
 have hget : ∀ l', l' ≠ l → (H.put l (.row A wr)).get l' = H.get l' := fun l' h => by rw [AHeap.put_get, if_neg (by omega)]
 have hgets : (H.put l (.row A wr)).get l = some (.row A wr) := by rw [AHeap.put_get, if_pos ⟨rfl, hln⟩]
 have key : ∀ l' b', (H.put l (.row A wr)).get l' = some b' → ∃ b'', H.get l' = some b'' ∧ (b'.wr = true → b''.wr = true) := by
  intro l' b' h'
  by_cases h : l' = l
  ·
   subst h
   rw [hgets] at h'
   cases h'
   exact ⟨_, hg, fun h => h⟩
  ·
   rw [hget l' h] at h'
   exact ⟨b', h', id⟩
 refine ⟨hs.dom, ?_, ?_, ?_, ?_, hs.fresh⟩
 ·
  intro l' li' cs' wr' hg' hm'
  by_cases h : l' = l
  ·
   subst h
   rw [hgets] at hg'
   cases hg'
   obtain ⟨c, e, lo, hi, g1, g2, g3, g4, g5⟩ := hs.row l' li' _ _ hg hm'
   rw [List.length_append] at g3
   refine ⟨c, e, lo, hi, g1, g2, by omega, fun i a hi' => g4 i a ?_, g5⟩
   have hlt : i < A.length := by
    rcases Nat.lt_or_ge i A.length with h | h
    ·
     exact h
    ·
     rw [List.getElem?_eq_none h] at hi'; cases hi'
   rw [List.getElem?_append_left hlt]; exact hi'
  ·
   rw [hget l' h] at hg'
   exact hs.row l' li' cs' wr' hg' hm'
 ·
  intro l' li' es hg' hm'
  by_cases h : l' = l
  ·
   subst h; rw [hgets] at hg'; cases hg'
  ·
   rw [hget l' h] at hg'
   exact hs.mp l' li' es hg' hm'
 ·
  intro l1 l2 b1 b2 li1 li2 hne h1 hw h2 hm1 hm2
  obtain ⟨c1, k1, k2⟩ := key l1 b1 h1
  obtain ⟨c2, k3, _⟩ := key l2 b2 h2
  exact hs.sep l1 l2 c1 c2 li1 li2 hne k1 (k2 hw) k3 hm1 hm2
 ·
  intro l1 b1 li1 h1 hw hm1
  obtain ⟨c1, k1, k2⟩ := key l1 b1 h1
  exact hs.may l1 c1 li1 k1 (k2 hw) hm1
section
variable {P : Program} {o : Pt} {d : Option Nat} {Q : AExit → Env → AHeap → Prop} {E : Env} {H : AHeap}
end
end Go.Ab
end
/- Cuts of a walk: a stop between two parts of a function, ways that meet again. -/
section
namespace Go.Ab
def seqFr : ACode → List Fr
 | .seq a b => .seq a :: seqFr b
 | c => [.seq c]
def flatFr : List Fr → List Fr
 | [] => []
 | .seq c :: fr => seqFr c ++ flatFr fr
 | f :: fr => f :: flatFr fr
def setFr (fr : List Fr) : Pt → Pt
 | .ex e => .ex e
 | .ops r _ => .ops r fr
 | .mixq r k _ => .mixq r k fr
 | .kids k _ => .kids k fr
 | .code a _ => .code a fr
def headPt : Pt → Pt
 | .code (.seq a b) fr => .code a (.seq b :: fr)
 | o => o
def ptCut (k : Nat) (o : Pt) : Pt := setFr ((flatFr (ptFr (headPt o))).take k) (headPt o)
def ptAft (k : Nat) (o : Pt) : List Fr := (flatFr (ptFr (headPt o))).drop k
theorem res_head {P : Program} {Q : AExit → Env → AHeap → Prop} {E : Env} {H : AHeap} {o : Pt} (h : Res P (headPt o) Q E H) : Res P o Q E H := by
 cases o with
 | code a fr => cases a <;> exact h
 | _ => exact h
theorem konts_cat {P : Program} {Q : AExit → Env → AHeap → Prop} : ∀ a b : List Fr, konts P (a ++ b) Q = konts P a (konts P b Q)
 | [], _ => rfl
 | .seq c :: a, b => by show seqK P c (konts P (a ++ b) Q) = _; rw [konts_cat a b]; rfl
 | .block id :: a, b => by show blockK id (konts P (a ++ b) Q) = _; rw [konts_cat a b]; rfl
 | .loop c :: a, b => by show loopK (aexec P (.loop c) (konts P (a ++ b) Q)) (konts P (a ++ b) Q) = _; rw [konts_cat a b]; rfl
theorem seqK_seq {P : Program} {a b : ACode} {Q : AExit → Env → AHeap → Prop} : seqK P (.seq a b) Q = seqK P a (seqK P b Q) := by
 funext e E H
 cases e <;> rfl
theorem konts_seqFr {P : Program} {Q : AExit → Env → AHeap → Prop} : ∀ c : ACode, konts P (seqFr c) Q = seqK P c Q
 | .seq a b => by show seqK P a (konts P (seqFr b) Q) = _; rw [konts_seqFr b, seqK_seq]
 | .skip | .run _ | .mix _ | .cond _ _ _ | .block _ _ | .loop _ | .exit _ | .ret => rfl
theorem konts_flat {P : Program} {Q : AExit → Env → AHeap → Prop} : ∀ fr : List Fr, konts P (flatFr fr) Q = konts P fr Q
 | [] => rfl
 | .seq c :: fr => by show konts P (seqFr c ++ flatFr fr) Q = _; rw [konts_cat, konts_flat fr, konts_seqFr]; rfl
 | .block id :: fr => by show blockK id (konts P (flatFr fr) Q) = _; rw [konts_flat fr]; rfl
 | .loop c :: fr => by show loopK (aexec P (.loop c) (konts P (flatFr fr) Q)) (konts P (flatFr fr) Q) = _; rw [konts_flat fr]; rfl
theorem res_split {P : Program} {o : Pt} {Q : AExit → Env → AHeap → Prop} {E : Env} {H : AHeap} (k : Nat) (ho : (match o with | .ex _ => false | _ => true) = true) (h : Res P (ptCut k o) (konts P (ptAft k o) Q) E H) : Res P o Q E H := by
 have e : ∀ fr, konts P ((flatFr fr).take k) (konts P ((flatFr fr).drop k) Q) = konts P fr Q := fun fr => by rw [← konts_cat, List.take_append_drop, konts_flat]
 refine res_head ?_
 have ho : (match headPt o with | .ex _ => false | _ => true) = true := by
  cases o with
  | code a fr => cases a <;> rfl
  | _ => exact ho
 unfold ptCut ptAft at h
 generalize headPt o = o at h ho ⊢
 cases o with
 | ex _ => cases ho
 | ops r fr => have h : arun P r E H (konts P ((flatFr fr).take k) (konts P ((flatFr fr).drop k) Q) .normal) := h; rw [e] at h; exact h
 | mixq r ks fr => have h : arun P r E H (mixK P ks (konts P ((flatFr fr).take k) (konts P ((flatFr fr).drop k) Q) .normal)) := h; rw [e] at h; exact h
 | kids ks fr => have h : mixK P ks (konts P ((flatFr fr).take k) (konts P ((flatFr fr).drop k) Q) .normal) E H := h; rw [e] at h; exact h
 | code a fr => have h : aexec P a (konts P ((flatFr fr).take k) (konts P ((flatFr fr).drop k) Q)) E H := h; rw [e] at h; exact h
def joinK (R : Env → AHeap → Prop) (Q : AExit → Env → AHeap → Prop) : AExit → Env → AHeap → Prop := fun e E H => match e with
 | .normal => R E H
 | e => Q e E H
theorem konts_mono {P : Program} {Q Q' : AExit → Env → AHeap → Prop} (h : ∀ e E H, Q e E H → Q' e E H) : ∀ (fr : List Fr) (e : AExit) (E : Env) (H : AHeap), konts P fr Q e E H → konts P fr Q' e E H
 | [], e, E, H, q => h e E H q
 | .seq c :: fr, e, E, H, q => by
  cases e with
  | normal => exact aexec_mono (konts_mono h fr) q
  | exit i => exact konts_mono h fr _ E H q
  | ret => exact konts_mono h fr _ E H q
 | .block id :: fr, e, E, H, q => by
  cases e with
  | normal => exact konts_mono h fr _ E H q
  | exit i =>
   have q : blockK id (konts P fr Q) (.exit i) E H := q
   show blockK id (konts P fr Q') (.exit i) E H
   have q : (if i = id then konts P fr Q .normal E H else konts P fr Q (.exit i) E H) := q
   show (if i = id then konts P fr Q' .normal E H else konts P fr Q' (.exit i) E H)
   split at q
   ·
    rename_i h1; rw [if_pos h1]; exact konts_mono h fr _ E H q
   ·
    rename_i h1; rw [if_neg h1]; exact konts_mono h fr _ E H q
  | ret => exact konts_mono h fr _ E H q
 | .loop c :: fr, e, E, H, q => by
  cases e with
  | normal => exact aexec_mono (konts_mono h fr) q
  | exit i => exact konts_mono h fr _ E H q
  | ret => exact konts_mono h fr _ E H q
theorem mixK_mono {P : Program} {ks : AKids} {K K' : Env → AHeap → Prop} (hk : ∀ E H, K E H → K' E H) {E : Env} {H : AHeap} (h : mixK P ks K E H) : mixK P ks K' E H := by
 exact ⟨fun e => hk _ _ (h.1 e), akids_mono hk h.2⟩
theorem res_mono {P : Program} {o : Pt} {Q Q' : AExit → Env → AHeap → Prop} {E : Env} {H : AHeap} (h : ∀ e E H, Q e E H → Q' e E H) (r : Res P o Q E H) : Res P o Q' E H := by
 cases o with
 | ex e => exact h _ _ _ r
 | ops rest fr => exact arun_mono (konts_mono h fr .normal) r
 | mixq rest ks fr => exact arun_mono (fun E H q => mixK_mono (konts_mono h fr .normal) q) r
 | kids ks fr => exact mixK_mono (konts_mono h fr .normal) r
 | code a fr => exact aexec_mono (konts_mono h fr) r
theorem res_join {P : Program} {o : Pt} {Q : AExit → Env → AHeap → Prop} {E : Env} {H : AHeap} (k : Nat) (R : Env → AHeap → Prop) (ho : (match o with | .ex _ => false | _ => true) = true)
  (h1 : Res P (ptCut k o) (joinK R (konts P (ptAft k o) Q)) E H) (h2 : ∀ E' H', R E' H' → Res P (.ops [] (ptAft k o)) Q E' H') : Res P o Q E H := by
 refine res_split k ho (res_mono ?_ h1)
 intro e E' H' q
 cases e with
 | normal => exact h2 E' H' q
 | exit i => exact q
 | ret => exact q
theorem res_meet {P : Program} {o : Pt} {R : Env → AHeap → Prop} {Q : AExit → Env → AHeap → Prop} {E : Env} {H : AHeap} (ho : o = .ex .normal) (h : R E H) : Res P o (joinK R Q) E H := by rw [ho]; exact h
def Fr.isSeq : Fr → Bool
 | .seq _ => true
 | _ => false
theorem ret_konts {P : Program} {Q : AExit → Env → AHeap → Prop} {E : Env} {H : AHeap} : ∀ {fr : List Fr}, fr.all Fr.isSeq = true → Q .ret E H → konts P fr Q .ret E H
 | [], _, h => h
 | .seq c :: fr, hf, h => ret_konts (fr := fr) (by simpa [Fr.isSeq] using hf) h
 | .block _ :: _, hf, _ => by simp [Fr.isSeq] at hf
 | .loop _ :: _, hf, _ => by simp [Fr.isSeq] at hf
theorem ret_join {P : Program} {R : Env → AHeap → Prop} {Q : AExit → Env → AHeap → Prop} {E : Env} {H : AHeap} {fr : List Fr} (hf : fr.all Fr.isSeq = true) (h : Q .ret E H) : joinK R (konts P fr Q) .ret E H := ret_konts hf h
/-! Short words for texts that are printed. -/
def l0 : SV := .lit (.int .i32 0)
def lN : SV := .lit .nilslice
theorem om {p : Prop} (h : p := by omega) : p := h
theorem am {p : Prop} (h : p := by assumption) : p := h
theorem kA {k : Kd} {a : AV} (h : HasKd k a := by exact ⟨_, rfl⟩) : HasKd k a := h
theorem kr {α : Sort _} {a b : α} (h : a = b := by kernel_rfl) : a = b := h
theorem aS {a b : Nat} (h : Apart a b := by first | assumption | exact Apart.symm (by assumption)) : Apart a b := h
theorem sd {ws : List Win} (h : ApL (seps ws) := by repeat (first | exact .nil | refine .cons (by first | assumption | exact Apart.symm (by assumption)) ?_)) : sepOk ws := sepD h
theorem wA {H : AHeap} {xs : List AV} {ls : List (Nat × Nat)} {ws : List Win} (h : WinL H xs ls ws := by repeat (first | exact .nil | refine .cons (by first | exact wR (by assumption) (by assumption) | exact wO (by assumption) (by assumption)) ?_)) : WinL H xs ls ws := h
section
variable {c : Cx} {s0 s : St} {vs0 vs : List AV} {ls0 ls : List (Nat × Nat)} {H0 H : AHeap} {E : Env}
theorem es (st : Step c s0 vs0 ls0 H0 s vs ls H) (hE : EnvOk s.env vs ls E) (sl : List (Nat × AV)) (e : (sl.map fun p => (findA p.1 s.env).bind (dn c.ρ c.φ s.ns c.ls 100)) = sl.map (fun p => some p.2) := by kernel_rfl) : SlotsOk E sl := slots_of st.inn hE e
end
theorem kL {ks : List Kd} {xs : List AV} (h : KdsL ks xs := by repeat (first | exact .nil | refine .cons (by first | exact ⟨_, rfl⟩ | exact ⟨_, rfl, by assumption⟩ | exact SlF.one (by assumption) | exact SlW.one (by assumption) | exact slOne (by assumption) | assumption) ?_)) : KdsL ks xs := h
section
variable {c : Cx} {s0 s : St} {vs0 vs : List AV} {ls0 ls : List (Nat × Nat)} {H0 H : AHeap} {E : Env}
theorem rf {P : Program} {o : Pt} {rs : List ARes} {r0 : AV} {H1 : AHeap} (st : Step c s0 vs0 ls0 H0 s vs ls H) (hE : EnvOk s.env vs ls E) (a : AV) (hg : Grew H1 H) (h : a = r0) (ho : o = .ex .ret := by kernel_rfl) (hr : (sres rs s).bind (dn c.ρ c.φ s.ns c.ls 100) = some a := by kernel_rfl) (hf : a.flat = true := by rfl) : Res P o (endK rs H1 (fun r' H' => r' = r0 ∧ H' = H1)) E H := res_ex ho (end_flat st.inn hE (.inr rfl) hr hg hf ⟨h, rfl⟩)
theorem re {P : Program} {o : Pt} {rs : List ARes} {H1 : AHeap} {R : AV → AHeap → Prop} (st : Step c s0 vs0 ls0 H0 s vs ls H) (hE : EnvOk s.env vs ls E) (a : AV) (hg : H1.next ≤ H.next) (h : R a H) (ho : o = .ex .ret := by kernel_rfl) (hr : (sres rs s).bind (dn c.ρ c.φ s.ns c.ls 100) = some a := by kernel_rfl) : Res P o (endK rs H1 R) E H := res_ex ho (end_same st.inn hE (.inr rfl) hr hg h)
theorem pO (st : Step c s0 vs0 ls0 H0 s vs ls H) (hE : EnvOk s.env vs ls E) (t j : Nat) (ds : List AV) (he : findA t s.env = some (.ptr j 0) := by kernel_rfl) (e : (findA j s.heap).bind (fun p => (dnL c.ρ c.φ s.ns c.ls 300 p.1).map fun x => (x, p.2)) = some (ds, true) := by kernel_rfl) : ∃ l, E t = .ptr l 0 ∧ H.get l = some (.row ds true) ∧ (c.ls.length ≤ j → c.H.next ≤ l) := ptr_of st.inn hE t j he e
end
theorem aL {H : AHeap} {l : Nat} {S S' : AV} {b : HB} (f : FromS H.next S S') (r : H.get l = some b) (h : ApartL S l) : ApartL S' l := f.apartL (H.lt_of_get r) h
theorem oM {k m : Nat} {p : Prop} (n : k ≤ m → p) (e : Nat.ble k m = true := by rfl) : p := n (Nat.le_of_ble_eq_true e)
@[simp] def wf (l : Nat) (cs : List SV) : Win := ⟨l, 0, cs, false⟩
theorem sp' {E : Env} {d : Nat} {r : AV} : ∀ {sl : List (Nat × AV)}, SlotsOk E sl → sl.all (fun p => !(Nat.beq d p.1)) = true → SlotsOk (E.put (some d) r) sl
 | [], _, _ => .nil
 | (t, a) :: sl, h, hd => by
  simp only [List.all_cons, Bool.and_eq_true, Bool.not_eq_true'] at hd
  exact .cons (put_ne hd.1 h.head) (sp' h.tail hd.2)
theorem sp {E : Env} {d : Nat} {r : AV} {sl : List (Nat × AV)} (h : SlotsOk E sl) (hd : sl.all (fun p => !(Nat.beq d p.1)) = true := by kernel_rfl) : SlotsOk (E.put (some d) r) sl := sp' h hd
theorem sn {E : Env} {r : AV} {sl : List (Nat × AV)} (h : SlotsOk E sl) : SlotsOk (E.put none r) sl := fun t a q => put_no (h t a q)
theorem sc {E : Env} {a b : List (Nat × AV)} (h : SlotsOk E a) (k : SlotsOk E b) : SlotsOk E (a ++ b) := fun t v q => by
  rcases List.mem_append.1 q with q | q
  · exact h t v q
  · exact k t v q
open Ieee
end Go.Ab
end
