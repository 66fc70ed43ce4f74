/- Floats: what becomes of a narrow one that is widened. -/
import Derived.Test.YtgjhjemmddojfaaAb21
set_option linter.unusedVariables false
set_option linter.unusedSimpArgs false
namespace Go.Ab
open Ieee

theorem read_num (f : Format) (neg : Bool) {rung : Nat} (h : rung < f.infRung) : f.read (f.word neg rung) = if rung < f.binade then .number neg rung f.leastPlace else .number neg (f.binade + rung % f.binade) (f.leastPlace + (rung / f.binade - 1 : Nat)) := by
  have hlt := f.infRung_lt
  have hpos : 0 < f.signWeight := Nat.two_pow_pos _
  have hm : f.word neg rung % f.signWeight = rung := by
    unfold Format.word
    split
    · rw [Nat.add_mod_left, Nat.mod_eq_of_lt (by omega)]
    · exact Nat.mod_eq_of_lt (by omega)
  have hd : (f.word neg rung / f.signWeight % 2 == 1) = neg := by
    unfold Format.word
    cases neg with
    | true => simp only [if_true]; rw [Nat.add_div_left _ hpos, Nat.div_eq_of_lt (by omega)]; rfl
    | false => simp only [Bool.false_eq_true, if_false]; rw [Nat.div_eq_of_lt (by omega)]; rfl
  unfold Format.read
  simp only [hm, hd]
  split
  · rfl
  · first | rfl | rw [if_pos h]
theorem word_lt (f : Format) (neg : Bool) {rung : Nat} (h : rung ≤ f.infRung) : f.word neg rung < 2 * f.signWeight := by
  have hlt := f.infRung_lt
  unfold Format.word
  split <;> omega

theorem cut_exact (w : Toward) (neg : Bool) {n d : Nat} (hd : d ≤ n.log2) (hr : n % 2 ^ d = 0) : w.cut neg n d = n / 2 ^ d := by
  unfold Toward.cut
  have e : min d (n.log2 + 2) = d := by omega
  simp only [e, Nat.one_shiftLeft, hr]
  have hp : 0 < 2 ^ d := Nat.two_pow_pos d
  have h0 : ¬ (2 ^ d < 2 * 0) := by omega
  have h1 : (2 ^ d == 2 * 0) = false := by
    rw [beq_eq_false_iff_ne]; omega
  cases w <;> simp

theorem f32_read {b : Nat} : ∀ {s : Bool} {m : Nat} {e : Int}, FloatKind.f32.decode b = .number s m e → m < 16777216 ∧ -149 ≤ e ∧ e ≤ 104 := by
  intro s m e h
  have hs : Format.signWeight single = 2147483648 := rfl
  have hi : Format.infRung single = 2139095040 := rfl
  have hb : Format.binade single = 8388608 := rfl
  have hl : Format.leastPlace single = -149 := rfl
  unfold FloatKind.decode FloatKind.format Format.read at h
  simp only [hs, hi, hb, hl] at h
  split at h
  · cases h; omega
  · split at h
    · rename_i h1 h2
      cases h
      have := Nat.mod_lt (b % 2147483648) (show 0 < 8388608 by decide)
      have h3 : b % 2147483648 / 8388608 < 255 := Nat.div_lt_of_lt_mul (by omega)
      omega
    · split at h <;> cases h

theorem wn_aux (N K : Nat) (h : N ≤ 1150) (h' : K < 9007199254740992) : N * 4503599627370496 + K < 9218868437227405312 := by omega
theorem wn_div (N K : Nat) (h : 4503599627370496 ≤ K) (h' : K < 9007199254740992) : (N * 4503599627370496 + K) / 4503599627370496 = N + 1 := by omega
theorem wn_mod (N K : Nat) (h : 4503599627370496 ≤ K) (h' : K < 9007199254740992) : (N * 4503599627370496 + K) % 4503599627370496 = K - 4503599627370496 := by omega
theorem widen_num {s : Bool} {m : Nat} {e : Int} (hm : m < 16777216) (h1 : -149 ≤ e) (h2 : e ≤ 104) : ∃ y, y < 18446744073709551616 ∧ FloatKind.f64.encode (.number s m e) = y ∧ ∃ (t : Nat) (m' : Nat), m' = m * 2 ^ t ∧ (m ≠ 0 → t + m.log2 = 52) ∧ (m = 0 → m' = 0) ∧ ∃ e' : Int, (m ≠ 0 → e' = e - t) ∧ FloatKind.f64.decode y = .number s m' e' := by
  have hb : Format.binade double = 4503599627370496 := rfl
  have hi : Format.infRung double = 9218868437227405312 := rfl
  have hl : Format.leastPlace double = -1074 := rfl
  have hf : double.fractionBits = 52 := rfl
  have hw : Format.signWeight double = 9223372036854775808 := rfl
  show ∃ y, y < 18446744073709551616 ∧ Format.nearest double s m e = y ∧ ∃ (t : Nat) (m' : Nat), m' = m * 2 ^ t ∧ (m ≠ 0 → t + m.log2 = 52) ∧ (m = 0 → m' = 0) ∧ ∃ e' : Int, (m ≠ 0 → e' = e - t) ∧ Format.read double y = .number s m' e'
  unfold Format.nearest
  by_cases h0 : m = 0
  · subst h0
    refine ⟨_, ?_, rfl, 0, 0, rfl, fun h => absurd rfl h, fun _ => rfl, -1074, fun h => absurd rfl h, ?_⟩
    · have := word_lt double s (rung := 0) (Nat.zero_le _); rw [if_pos rfl]; omega
    · rw [if_pos rfl, read_num double s (rung := 0) (by rw [hi]; omega), hb, hl, if_pos (by omega)]
  · have hlog : m.log2 ≤ 23 := by
      have := (Nat.log2_lt (n := m) (k := 24) h0).2 (by omega)
      omega
    have hlo : 2 ^ m.log2 ≤ m := Nat.log2_self_le h0
    have hhi : m < 2 ^ (m.log2 + 1) := Nat.lt_log2_self
    rw [if_neg h0]
    simp only [hf, hl]
    have hmax : max (e + (m.log2 : Int) - ((52 : Nat) : Int)) (-1074) = e + m.log2 - 52 := by omega
    rw [hmax]
    have e1 : (e - (e + (m.log2 : Int) - 52)).toNat = 52 - m.log2 := by omega
    have e2 : (e + (m.log2 : Int) - 52 - e).toNat = 0 := by omega
    rw [e1, e2]
    generalize ht : 52 - m.log2 = t
    have hk : (m <<< t) = m * 2 ^ t := Nat.shiftLeft_eq m t
    rw [hk]
    have hc : Toward.even.cut s (m * 2 ^ t) 0 = m * 2 ^ t := by
      rw [cut_exact .even s (Nat.zero_le _) (Nat.mod_one _)]; simp
    rw [hc]
    have g1 : 4503599627370496 ≤ m * 2 ^ t := by
      have : 2 ^ m.log2 * 2 ^ t ≤ m * 2 ^ t := Nat.mul_le_mul_right _ hlo
      rw [← Nat.pow_add, show m.log2 + t = 52 by omega] at this
      simp only [Nat.reducePow] at this
      exact this
    have g2 : m * 2 ^ t < 9007199254740992 := by
      have : m * 2 ^ t < 2 ^ (m.log2 + 1) * 2 ^ t := Nat.mul_lt_mul_of_pos_right hhi (Nat.two_pow_pos t)
      rw [← Nat.pow_add, show m.log2 + 1 + t = 53 by omega] at this
      simp only [Nat.reducePow] at this
      exact this
    generalize hK : m * 2 ^ t = K at g1 g2
    generalize hN : (e + (m.log2 : Int) - 52 - -1074).toNat = N
    have hN' : N ≤ 1150 := by omega
    have hN2 : (N : Int) = e + m.log2 - 52 + 1074 := by omega
    have ht' : t + m.log2 = 52 := by omega
    have hr1 : (-1074 : Int) + ((N + 1 - 1 : Nat) : Int) = e - t := by omega
    have hr2 : 4503599627370496 + (K - 4503599627370496) = K := by omega
    have hmin : min (N * double.binade + K) double.infRung = N * 4503599627370496 + K := by
      rw [hb, hi]; exact Nat.min_eq_left (Nat.le_of_lt (wn_aux N K hN' g2))
    rw [hmin]
    refine ⟨_, ?_, rfl, t, K, hK.symm, fun _ => ht', fun h => absurd h h0, e - t, fun _ => rfl, ?_⟩
    · have := word_lt double s (rung := N * 4503599627370496 + K) (by rw [hi]; exact Nat.le_of_lt (wn_aux N K hN' g2)); rw [hw] at this; exact Nat.lt_of_lt_of_le this (Nat.le_of_eq (by simp only [Nat.reduceMul]))
    · rw [read_num double s (rung := N * 4503599627370496 + K) (by rw [hi]; exact wn_aux N K hN' g2)]
      simp only [hb, hl]
      rw [if_neg (Nat.not_lt.2 (Nat.le_trans g1 (Nat.le_add_left _ _))), wn_div N K g1 g2, wn_mod N K g1 g2]
      rw [hr1, hr2]

theorem narrow_num {s : Bool} {m : Nat} {e : Int} (hm : m < 16777216) (h1 : -149 ≤ e) (h2 : e ≤ 104) {t : Nat} (h0 : m ≠ 0) (ht : t + m.log2 = 52) : FloatKind.f32.encode (.number s (m * 2 ^ t) (e - t)) = FloatKind.f32.encode (.number s m e) ∧ (FloatKind.f32.decode (FloatKind.f32.encode (.number s m e))).isInfinity = false := by
  have hb : Format.binade single = 8388608 := rfl
  have hi : Format.infRung single = 2139095040 := rfl
  have hl : Format.leastPlace single = -149 := rfl
  have hf : single.fractionBits = 23 := rfl
  show Format.nearest single s (m * 2 ^ t) (e - t) = Format.nearest single s m e ∧ (Format.read single (Format.nearest single s m e)).isInfinity = false
  have hlog : m.log2 ≤ 23 := by
    have := (Nat.log2_lt (n := m) (k := 24) h0).2 (by omega)
    omega
  have hp : 0 < 2 ^ t := Nat.two_pow_pos t
  have hlo : 2 ^ m.log2 ≤ m := Nat.log2_self_le h0
  have hhi : m < 2 ^ (m.log2 + 1) := Nat.lt_log2_self
  have hne : m * 2 ^ t ≠ 0 := by
    have := Nat.mul_ne_zero h0 (show 2 ^ t ≠ 0 by omega)
    exact this
  have hlog2 : (m * 2 ^ t).log2 = 52 := by
    rw [← ht]
    have e1 : m * 2 ^ t < 2 ^ (t + m.log2 + 1) := by
      have : m * 2 ^ t < 2 ^ (m.log2 + 1) * 2 ^ t := Nat.mul_lt_mul_of_pos_right hhi hp
      rw [← Nat.pow_add, show m.log2 + 1 + t = t + m.log2 + 1 by omega] at this
      exact this
    have e2 : 2 ^ (t + m.log2) ≤ m * 2 ^ t := by
      have : 2 ^ m.log2 * 2 ^ t ≤ m * 2 ^ t := Nat.mul_le_mul_right _ hlo
      rw [← Nat.pow_add, show m.log2 + t = t + m.log2 by omega] at this
      exact this
    have a1 := (Nat.log2_lt (n := m * 2 ^ t) (k := t + m.log2 + 1) hne).2 e1
    have a2 := (Nat.le_log2 hne).2 e2
    omega
  -- the last place that is kept
  have hL : ∃ L : Int, max (e + (m.log2 : Int) - 23) (-149) = L := ⟨_, rfl⟩
  obtain ⟨L, hL⟩ := hL
  have hLe : L ≤ e := by omega
  have A : Format.nearest single s m e = single.word s (min ((L + 149).toNat * 8388608 + m * 2 ^ (e - L).toNat) 2139095040) := by
    unfold Format.nearest
    rw [if_neg h0]
    simp only [hf, hl, hb, hi]
    rw [show max (e + (m.log2 : Int) - ((23 : Nat) : Int)) (-149) = L from hL]
    rw [show (L - e).toNat = 0 by omega, Nat.shiftLeft_eq, cut_exact .even s (Nat.zero_le _) (Nat.mod_one _)]
    simp [show L - -149 = L + 149 by omega]
  have B : Format.nearest single s (m * 2 ^ t) (e - t) = single.word s (min ((L + 149).toNat * 8388608 + m * 2 ^ (e - L).toNat) 2139095040) := by
    unfold Format.nearest
    rw [if_neg hne]
    simp only [hf, hl, hb, hi, hlog2]
    rw [show max (e - (t : Int) + ((52 : Nat) : Int) - ((23 : Nat) : Int)) (-149) = L by omega]
    rw [show (e - (t : Int) - L).toNat = 0 by omega, Nat.shiftLeft_eq, Nat.pow_zero, Nat.mul_one]
    have hd : (L - (e - (t : Int))).toNat ≤ t := by omega
    generalize hdd : (L - (e - (t : Int))).toNat = d at hd
    have hpow : 2 ^ t = 2 ^ (t - d) * 2 ^ d := by rw [← Nat.pow_add]; congr 1; omega
    have hsp : m * 2 ^ t = m * 2 ^ (t - d) * 2 ^ d := by rw [Nat.mul_assoc, ← hpow]
    rw [cut_exact .even s (by rw [hlog2]; omega) (by rw [hsp]; exact Nat.mul_mod_left _ _)]
    rw [hsp, Nat.mul_div_cancel _ (Nat.two_pow_pos d)]
    rw [show t - d = (e - L).toNat by omega, show L - -149 = L + 149 by omega]
  refine ⟨B.trans A.symm, ?_⟩
  rw [A]
  have hk : m * 2 ^ (e - L).toNat < 16777216 := by
    have h3 : m.log2 + (e - L).toNat ≤ 23 := by omega
    have : m * 2 ^ (e - L).toNat < 2 ^ (m.log2 + 1) * 2 ^ (e - L).toNat := Nat.mul_lt_mul_of_pos_right hhi (Nat.two_pow_pos _)
    rw [← Nat.pow_add] at this
    have h4 : 2 ^ (m.log2 + 1 + (e - L).toNat) ≤ 2 ^ 24 := Nat.pow_le_pow_right (by decide) (by omega)
    omega
  have hr : (L + 149).toNat * 8388608 + m * 2 ^ (e - L).toNat < 2139095040 := by omega
  rw [Nat.min_eq_left (by omega), read_num single s (by rw [hi]; exact hr)]
  split <;> rfl

theorem widen_ok {x : Option Nat} (h : fOk .f32 x) : ∃ y, f2f .f32 x .f64 = some y ∧ fOk .f64 y ∧ (f2f .f64 y .f32).isSome = true := by
  cases x with
  | none => exact ⟨none, rfl, fun c hc => (by cases hc), rfl⟩
  | some b =>
    obtain ⟨hb, hn⟩ := h b rfl
    show ∃ y, (floatToFloatBits .f32 b .f64).map some = some y ∧ _
    unfold floatToFloatBits
    rw [if_neg (by decide)]
    generalize hd : FloatKind.f32.decode b = d at hn
    cases d with
    | nan s t => cases hn
    | infinity s =>
      refine ⟨_, rfl, ?_, ?_⟩
      · intro c hc
        cases hc
        cases s <;> exact ⟨by decide +kernel, by decide +kernel⟩
      · cases s <;> decide +kernel
    | number s m e =>
      obtain ⟨g1, g2, g3⟩ := f32_read hd
      obtain ⟨y, hy, he, t, m', hm', ht, hz, e', he', hr⟩ := widen_num (s := s) g1 g2 g3
      simp only [he]
      rw [hr]
      refine ⟨some y, rfl, ?_, ?_⟩
      · intro c hc
        cases hc
        exact ⟨hy, by rw [hr]; rfl⟩
      · show ((floatToFloatBits .f64 y .f32).map some).isSome = true
        unfold floatToFloatBits
        rw [if_neg (by decide), hr]
        simp only []
        by_cases h0 : m = 0
        · rw [hz h0]
          have : (FloatKind.f32.decode (FloatKind.f32.encode (.number s 0 e'))).isInfinity = false := by
            rw [show FloatKind.f32.encode (.number s 0 e') = single.word s 0 from rfl]; cases s <;> decide +kernel
          rw [this]; rfl
        · obtain ⟨k1, k2⟩ := narrow_num (s := s) g1 g2 g3 h0 (ht h0)
          rw [hm', he' h0, k1, k2]; rfl
end Go.Ab
