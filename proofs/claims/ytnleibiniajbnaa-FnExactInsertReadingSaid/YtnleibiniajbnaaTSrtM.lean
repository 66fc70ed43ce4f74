/- Plain laws: merging of neighbours by turning. -/
import Derived.Test.YtnleibiniajbnaaTSrt
import Derived.Test.YtnleibiniajbnaaSxE
set_option linter.unusedVariables false
set_option linter.unusedSimpArgs false
namespace Go.Proofs.Ytnleibiniajbnaa
open Go.Ab
set_option maxRecDepth 100000
theorem rot_triv1 {L : List (List AV)} {m e : Nat} (h1 : m ≤ e) (h2 : e ≤ L.length) : rot L m m e = L := by
 refine ext_getD (rot_len (Nat.le_refl _) h1 h2) fun k => ?_
 rw [rot_get (Nat.le_refl _) h1 h2]
 congr 1
 unfold rIx
 repeat' split
 all_goals omega
theorem rot_triv2 {L : List (List AV)} {s m : Nat} (h1 : s ≤ m) (h2 : m ≤ L.length) : rot L s m m = L := by
 refine ext_getD (rot_len h1 (Nat.le_refl _) h2) fun k => ?_
 rw [rot_get h1 (Nat.le_refl _) h2]
 congr 1
 unfold rIx
 repeat' split
 all_goals omega
section
variable {L : List (List AV)} {a s m e b mid : Nat}
theorem sy_lt (has : a ≤ s) (hsm : s ≤ m) (hme : m ≤ e) (heb : e ≤ b) (S1 : Srt a m L) (S2 : Srt m b L) (h2 : s = m ∨ e = m ∨ tmR L (e - 1) < tmR L s) : ∀ p q, s ≤ p → p < m → m ≤ q → q < e → tmR L q < tmR L p := fun p q c1 c2 c3 c4 => by
 rcases h2 with h | h | h
 ·
  omega
 ·
  omega
 ·
  exact Int.lt_of_le_of_lt (S2.le c3 om om) (Int.lt_of_lt_of_le h (S1.le has c1 c2))
theorem sy_St (has : a ≤ s) (hsm : s ≤ m) (hme : m ≤ e) (heb : e ≤ b) (hbl : b ≤ L.length) (S1 : Srt a m L) (S2 : Srt m b L) (h2 : s = m ∨ e = m ∨ tmR L (e - 1) < tmR L s) : St a b L (rot L s m e) :=
 (rot_St hsm hme om (sy_lt has hsm hme heb S1 S2 h2)).wide has heb
theorem sy_X1 (hsm : s ≤ m) (hme : m ≤ e) (hel : e ≤ L.length) (S1 : Srt a m L) : Srt a s (rot L s m e) :=
 (S1.sub (Nat.le_refl _) hsm).same fun k c1 c2 => by rw [rot_tm hsm hme hel]; unfold rIx; rw [if_pos c2]
theorem sy_Y1 (hsm : s ≤ m) (hme : m ≤ e) (heb : e ≤ b) (hel : e ≤ L.length) (hq : s + e = mid + m) (S2 : Srt m b L) : Srt s mid (rot L s m e) := fun p q c1 c2 c3 => by
 rw [rot_tm hsm hme hel, rot_tm hsm hme hel]
 unfold rIx
 rw [if_neg om, if_pos om, if_neg om, if_pos om]
 exact S2 _ _ om om om
theorem sy_X2 (has : a ≤ s) (hsm : s ≤ m) (hme : m ≤ e) (hel : e ≤ L.length) (hq : s + e = mid + m) (S1 : Srt a m L) : Srt mid e (rot L s m e) := fun p q c1 c2 c3 => by
 rw [rot_tm hsm hme hel, rot_tm hsm hme hel]
 unfold rIx
 rw [if_neg om, if_neg om, if_pos om, if_neg om, if_neg om, if_pos om]
 exact S1 _ _ om om om
theorem sy_Y2 (hsm : s ≤ m) (hme : m ≤ e) (hel : e ≤ L.length) (S2 : Srt m b L) : Srt e b (rot L s m e) :=
 (S2.sub hme (Nat.le_refl _)).same fun k c1 c2 => by rw [rot_tm hsm hme hel]; unfold rIx; rw [if_neg om, if_neg om, if_neg om]
theorem sy_cross (has : a ≤ s) (hsm : s ≤ m) (hme : m ≤ e) (heb : e ≤ b) (hbl : b ≤ L.length) (hq : s + e = mid + m) (S1 : Srt a m L) (S2 : Srt m b L) (h1 : s = a ∨ e = b ∨ tmR L (s - 1) ≤ tmR L e) (h2 : s = m ∨ e = m ∨ tmR L (e - 1) < tmR L s) : ∀ p q, a ≤ p → p < mid → mid ≤ q → q < b → tmR (rot L s m e) p ≤ tmR (rot L s m e) q := fun p q c1 c2 c3 c4 => by
 have hlt := sy_lt has hsm hme heb S1 S2 h2
 rw [rot_tm hsm hme om, rot_tm hsm hme om]
 unfold rIx
 by_cases d1 : p < s
 ·
  rw [if_pos d1, if_neg om, if_neg om]
  by_cases d2 : q < e
  ·
   rw [if_pos d2]; exact S1 _ _ c1 om om
  ·
   rw [if_neg d2]
   rcases h1 with h | h | h
   ·
    omega
   ·
    omega
   ·
    exact Int.le_trans (S1.le c1 om om) (Int.le_trans h (S2.le hme om c4))
 ·
  rw [if_neg d1, if_pos om, if_neg om, if_neg om]
  by_cases d2 : q < e
  ·
   rw [if_pos d2]; exact Int.le_of_lt (hlt _ _ om om om om)
  ·
   rw [if_neg d2]; exact S2 _ _ om om c4
theorem sy_fin {R R1 R2 : List (List AV)} (ham : a ≤ mid) (hmb : mid ≤ b) (hbl : b ≤ L.length) (h0 : St a b L R) (x : ∀ p q, a ≤ p → p < mid → mid ≤ q → q < b → tmR R p ≤ tmR R q) (h1 : St a mid R R1) (s1 : Srt a mid R1) (h2 : St mid b R1 R2) (s2 : Srt mid b R2) : St a b L R2 ∧ Srt a b R2 := by
 have l0 := h0.len
 have l1 := h1.len
 refine ⟨(h0.trans (h1.wide (Nat.le_refl _) hmb)).trans (h2.wide ham (Nat.le_refl _)), Srt.join (s1.same fun k c1 c2 => by unfold tmR; rw [h2.out k (.inl c2)]) s2 fun p q c1 c2 c3 c4 => ?_⟩
 obtain ⟨p2, d1, d2, d3⟩ := h1.memT ham om c1 c2
 obtain ⟨q2, d4, d5, d6⟩ := h2.memT hmb om c3 c4
 have f1 : tmR R2 p = tmR R1 p := by unfold tmR; rw [h2.out p (.inl c2)]
 have f2 : tmR R1 q2 = tmR R q2 := by unfold tmR; rw [h1.out q2 (.inr d4)]
 rw [f1, d3, d6, f2]
 exact x p2 q2 d1 d2 d4 d5
theorem sy_one1 {i : Nat} (hm : m = a + 1) (hmi : m ≤ i) (hib : i ≤ b) (hbl : b ≤ L.length) (S2 : Srt m b L) (h2 : i = m ∨ tmR L (i - 1) < tmR L a) (h3 : i = b ∨ tmR L a ≤ tmR L i) : St a b L (rot L a m i) ∧ Srt a b (rot L a m i) := by
 have S1 : Srt a m L := Srt.one L om
 have k2 : a = m ∨ i = m ∨ tmR L (i - 1) < tmR L a := .inr h2
 refine ⟨sy_St (Nat.le_refl _) om hmi hib hbl S1 S2 k2, ?_⟩
 refine Srt.join (m := a + i - m) (sy_Y1 om hmi hib om om S2) (Srt.join (m := i) (sy_X2 (Nat.le_refl _) om hmi om om S1) (sy_Y2 om hmi om S2) fun p q c1 c2 c3 c4 => ?_) (sy_cross (Nat.le_refl _) om hmi hib hbl om S1 S2 (.inl rfl) k2)
 rw [rot_tm om hmi om, rot_tm om hmi om]
 unfold rIx
 rw [if_neg om, if_neg om, if_pos c2, if_neg om, if_neg om, if_neg om]
 rcases h3 with h | h
 ·
  omega
 ·
  rw [show p - (i - m) = a by omega]
  exact Int.le_trans h (S2.le hmi c3 c4)
theorem sy_one2 {i : Nat} (hb : b = m + 1) (hai : a ≤ i) (him : i ≤ m) (hbl : b ≤ L.length) (S1 : Srt a m L) (h1 : i = a ∨ tmR L (i - 1) ≤ tmR L m) (h2 : i = m ∨ tmR L m < tmR L i) : St a b L (rot L i m b) ∧ Srt a b (rot L i m b) := by
 have S2 : Srt m b L := Srt.one L om
 have k2 : i = m ∨ b = m ∨ tmR L (b - 1) < tmR L i := by
  rcases h2 with h | h
  ·
   exact .inl h
  ·
   exact .inr (.inr (by rw [show b - 1 = m by omega]; exact h))
 refine ⟨sy_St hai him om (Nat.le_refl _) hbl S1 S2 k2, ?_⟩
 refine Srt.join (m := i + 1) (Srt.join (m := i) (sy_X1 him om hbl S1) (Srt.one _ om) fun p q c1 c2 c3 c4 => ?_) (sy_X2 hai him om hbl om S1) (sy_cross hai him om (Nat.le_refl _) hbl om S1 S2 (.inr (.inl rfl)) k2)
 rw [rot_tm him om hbl, rot_tm him om hbl]
 unfold rIx
 rw [if_pos c2, if_neg om, if_pos om, show q - i + m = m by omega]
 rcases h1 with h | h
 ·
  omega
 ·
  exact Int.le_trans (S1.le c1 om om) h
theorem one1_step {k : Nat} (hm : m = a + 1) (hk : a ≤ k) (hl : k + 2 ≤ L.length) : swp (rot L a m (k + 1)) k (k + 1) = rot L a m (k + 2) := by
 have hl1 : (rot L a m (k + 1)).length = L.length := rot_len om om om
 refine ext_getD (by rw [swp_len, hl1, rot_len om om hl]) fun q => ?_
 rw [swp_get om om, rot_get om om hl, rot_get om om om, rot_get om om om, rot_get om om om]
 have key : (if q = k + 1 then rIx a m (k + 1) k else if q = k then rIx a m (k + 1) (k + 1) else rIx a m (k + 1) q) = rIx a m (k + 2) q := by
  unfold rIx
  repeat' split
  all_goals omega
 rw [← key]
 split
 ·
  rfl
 ·
  split <;> rfl
theorem one2_step {k : Nat} (hb : b = m + 1) (hk : 0 < k) (hkm : k ≤ m) (hl : b ≤ L.length) : swp (rot L k m b) k (k - 1) = rot L (k - 1) m b := by
 have hl1 : (rot L k m b).length = L.length := rot_len om om om
 refine ext_getD (by rw [swp_len, hl1, rot_len om om hl]) fun q => ?_
 rw [swp_get om om, rot_get (a := k - 1) om om hl, rot_get om om om, rot_get om om om, rot_get om om om]
 have key : (if q = k - 1 then rIx k m b k else if q = k then rIx k m b (k - 1) else rIx k m b q) = rIx (k - 1) m b q := by
  unfold rIx
  repeat' split
  all_goals omega
 rw [← key]
 split
 ·
  rfl
 ·
  split <;> rfl
end
end Go.Proofs.Ytnleibiniajbnaa
