/- Plain laws: lists of readings that are sorted by their times, equal times in their order. -/
import Derived.Test.YtnleibiniajbnaaTReadL
import Derived.Test.YtnleibiniajbnaaSxE
set_option linter.unusedVariables false
set_option linter.unusedSimpArgs false
namespace Go.Proofs.Ytnleibiniajbnaa
open Go.Ab
set_option maxRecDepth 100000
def tmR (L : List (List AV)) (k : Nat) : Int := timeR (L.getD k [])
def FE (L M : List (List AV)) : Prop := ∀ t : Int, L.filter (fun m => decide (timeR m = t)) = M.filter (fun m => decide (timeR m = t))
theorem FE.refl (L : List (List AV)) : FE L L := fun _ => rfl
theorem FE.trans {L M N : List (List AV)} (h : FE L M) (k : FE M N) : FE L N := fun t => (h t).trans (k t)
def swp (L : List (List AV)) (i j : Nat) : List (List AV) := (L.set i (L.getD j [])).set j (L.getD i [])
theorem swp_len (L : List (List AV)) (i j : Nat) : (swp L i j).length = L.length := by simp [swp]
theorem getD_set {L : List (List AV)} {i k : Nat} {m : List AV} (hi : i < L.length) : (L.set i m).getD k [] = if k = i then m else L.getD k [] := by
 simp only [List.getD_eq_getElem?_getD, List.getElem?_set]
 by_cases h : k = i
 ·
  subst h; simp [hi]
 ·
  rw [if_neg h, if_neg (fun e => h e.symm)]
theorem swp_get {L : List (List AV)} {i j : Nat} (hi : i < L.length) (hj : j < L.length) (k : Nat) : (swp L i j).getD k [] = if k = j then L.getD i [] else if k = i then L.getD j [] else L.getD k [] := by
 unfold swp
 rw [getD_set (by simpa using hj), getD_set hi]
theorem swp_tm {L : List (List AV)} {i j : Nat} (hi : i < L.length) (hj : j < L.length) (k : Nat) : tmR (swp L i j) k = if k = j then tmR L i else if k = i then tmR L j else tmR L k := by
 unfold tmR
 rw [swp_get hi hj]
 split
 ·
  rfl
 ·
  split <;> rfl
theorem split_at {L : List (List AV)} {i : Nat} (hi : i + 1 < L.length) : L = L.take i ++ L.getD i [] :: L.getD (i + 1) [] :: L.drop (i + 2) := by
 have e1 : L.drop i = L[i] :: L.drop (i + 1) := List.drop_eq_getElem_cons om
 have e2 : L.drop (i + 1) = L[i + 1] :: L.drop (i + 2) := List.drop_eq_getElem_cons hi
 have g1 : L.getD i [] = L[i] := by rw [List.getD_eq_getElem?_getD, List.getElem?_eq_getElem om]; rfl
 have g2 : L.getD (i + 1) [] = L[i + 1] := by rw [List.getD_eq_getElem?_getD, List.getElem?_eq_getElem hi]; rfl
 rw [g1, g2, ← e2, ← e1, List.take_append_drop]
theorem set2 : ∀ (A : List (List AV)) (x y : List AV) (B : List (List AV)), ((A ++ x :: y :: B).set A.length y).set (A.length + 1) x = A ++ y :: x :: B
 | [], _, _, _ => rfl
 | a :: A, x, y, B => by
  have := set2 A x y B
  simp only [List.cons_append, List.length_cons, List.set_cons_succ]
  rw [this]
theorem swp_split {L : List (List AV)} {i : Nat} (hi : i + 1 < L.length) : swp L i (i + 1) = L.take i ++ L.getD (i + 1) [] :: L.getD i [] :: L.drop (i + 2) := by
 have hl : (L.take i).length = i := by rw [List.length_take]; omega
 have e := split_at hi
 have h2 := set2 (L.take i) (L.getD i []) (L.getD (i + 1) []) (L.drop (i + 2))
 rw [hl, ← e] at h2
 exact h2
theorem swp_comm {L : List (List AV)} {i j : Nat} (hi : i < L.length) (hj : j < L.length) : swp L i j = swp L j i := by
 apply List.ext_getElem (by rw [swp_len, swp_len])
 intro k h1 h2
 have a := swp_get hi hj k
 have b := swp_get hj hi k
 rw [List.getD_eq_getElem?_getD, List.getElem?_eq_getElem h1] at a
 rw [List.getD_eq_getElem?_getD, List.getElem?_eq_getElem h2] at b
 rw [Option.getD_some] at a b
 rw [a, b]
 by_cases e1 : k = j
 ·
  by_cases e2 : k = i
  ·
   rw [if_pos e1, if_pos e2, ← e1, ← e2]
  ·
   rw [if_pos e1, if_neg e2, if_pos e1]
 ·
  by_cases e2 : k = i
  ·
   rw [if_neg e1, if_pos e2, if_pos e2]
  ·
   rw [if_neg e1, if_neg e2, if_neg e2, if_neg e1]
theorem FE_two (A B : List (List AV)) {x y : List AV} (h : timeR x ≠ timeR y) : FE (A ++ x :: y :: B) (A ++ y :: x :: B) := fun t => by
 simp only [List.filter_append]
 congr 1
 by_cases hx : timeR x = t
 ·
  have hy : ¬ timeR y = t := fun e => h (hx.trans e.symm)
  rw [List.filter_cons_of_pos (by simpa using hx), List.filter_cons_of_neg (by simpa using hy), List.filter_cons_of_neg (by simpa using hy), List.filter_cons_of_pos (by simpa using hx)]
 ·
  by_cases hy : timeR y = t
  ·
   rw [List.filter_cons_of_neg (by simpa using hx), List.filter_cons_of_pos (by simpa using hy), List.filter_cons_of_pos (by simpa using hy), List.filter_cons_of_neg (by simpa using hx)]
  ·
   rw [List.filter_cons_of_neg (by simpa using hx), List.filter_cons_of_neg (by simpa using hy), List.filter_cons_of_neg (by simpa using hy), List.filter_cons_of_neg (by simpa using hx)]
theorem FE_swp {L : List (List AV)} {i : Nat} (hi : i + 1 < L.length) (h : tmR L i ≠ tmR L (i + 1)) : FE L (swp L i (i + 1)) := by
 rw [swp_split hi]
 have := FE_two (L.take i) (L.drop (i + 2)) h
 rwa [← split_at hi] at this
structure St (a b : Nat) (L M : List (List AV)) : Prop where
  len : M.length = L.length
  out : ∀ k, (k < a ∨ b ≤ k) → M.getD k [] = L.getD k []
  fe : FE L M
theorem St.refl (a b : Nat) (L : List (List AV)) : St a b L L := ⟨rfl, fun _ _ => rfl, .refl L⟩
theorem St.trans {a b : Nat} {L M N : List (List AV)} (h : St a b L M) (k : St a b M N) : St a b L N := ⟨k.len.trans h.len, fun q hq => (k.out q hq).trans (h.out q hq), h.fe.trans k.fe⟩
theorem St.wide {a b a' b' : Nat} {L M : List (List AV)} (h : St a b L M) (ha : a' ≤ a) (hb : b ≤ b') : St a' b' L M := ⟨h.len, fun k hk => h.out k om, h.fe⟩
theorem ext_getD {L M : List (List AV)} (hl : L.length = M.length) (h : ∀ k, L.getD k [] = M.getD k []) : L = M := by
 apply List.ext_getElem hl
 intro k h1 h2
 have := h k
 rw [List.getD_eq_getElem?_getD, List.getD_eq_getElem?_getD, List.getElem?_eq_getElem h1, List.getElem?_eq_getElem h2] at this
 exact this
theorem getD_take {L : List (List AV)} {n k : Nat} (h : k < n) : (L.take n).getD k [] = L.getD k [] := by
 rw [List.getD_eq_getElem?_getD, List.getD_eq_getElem?_getD, List.getElem?_take_of_lt h]
theorem getD_drop {L : List (List AV)} (n k : Nat) : (L.drop n).getD k [] = L.getD (n + k) [] := by
 rw [List.getD_eq_getElem?_getD, List.getD_eq_getElem?_getD, List.getElem?_drop]
theorem getD_over {L : List (List AV)} {k : Nat} (h : L.length ≤ k) : L.getD k [] = [] := by
 rw [List.getD_eq_getElem?_getD, List.getElem?_eq_none h]; rfl
theorem getD_app {A B : List (List AV)} (k : Nat) : (A ++ B).getD k [] = if k < A.length then A.getD k [] else B.getD (k - A.length) [] := by
 rw [List.getD_eq_getElem?_getD]
 split
 ·
  rename_i h; rw [List.getElem?_append_left h, List.getD_eq_getElem?_getD]
 ·
  rename_i h; rw [List.getElem?_append_right om, List.getD_eq_getElem?_getD]
theorem seg3 (L : List (List AV)) (a b : Nat) (hab : a ≤ b) : L = L.take a ++ ((L.drop a).take (b - a) ++ L.drop b) := by
 have : L.drop b = (L.drop a).drop (b - a) := by rw [List.drop_drop]; congr 1; omega
 rw [this, List.take_append_drop, List.take_append_drop]
theorem St.mem {a b : Nat} {L M : List (List AV)} (h : St a b L M) (hab : a ≤ b) (hb : b ≤ L.length) {p : Nat} (hp : a ≤ p) (hq : p < b) : ∃ q, a ≤ q ∧ q < b ∧ M.getD p [] = L.getD q [] := by
 have e1 : M.take a = L.take a := ext_getD (by rw [List.length_take, List.length_take, h.len]) fun k => by
  by_cases hk : k < a
  ·
   rw [getD_take hk, getD_take hk, h.out k (.inl hk)]
  ·
   rw [getD_over (by rw [List.length_take]; omega), getD_over (by rw [List.length_take]; omega)]
 have e2 : M.drop b = L.drop b := ext_getD (by rw [List.length_drop, List.length_drop, h.len]) fun k => by
  rw [getD_drop, getD_drop, h.out _ (.inr om)]
 have hf : ∀ t : Int, ((L.drop a).take (b - a)).filter (fun m => decide (timeR m = t)) = ((M.drop a).take (b - a)).filter (fun m => decide (timeR m = t)) := fun t => by
  have := h.fe t
  conv at this => lhs; rw [seg3 L a b hab]
  conv at this => rhs; rw [seg3 M a b hab, e1, e2]
  simp only [List.filter_append] at this
  exact List.append_cancel_right (List.append_cancel_left this)
 have hx : M.getD p [] ∈ (M.drop a).take (b - a) := by
  have : M.getD p [] = ((M.drop a).take (b - a)).getD (p - a) [] := by rw [getD_take om, getD_drop]; congr 1; omega
  rw [this, List.getD_eq_getElem?_getD, List.getElem?_eq_getElem (by rw [List.length_take, List.length_drop, h.len]; omega)]
  exact List.getElem_mem _
 have hm : M.getD p [] ∈ ((M.drop a).take (b - a)).filter (fun m => decide (timeR m = timeR (M.getD p []))) := List.mem_filter.2 ⟨hx, by simp⟩
 rw [← hf] at hm
 obtain ⟨q, hq2, e⟩ := List.getElem_of_mem (List.mem_filter.1 hm).1
 rw [List.length_take, List.length_drop] at hq2
 refine ⟨a + q, by omega, by omega, ?_⟩
 rw [← e, List.getElem_take, List.getElem_drop, List.getD_eq_getElem?_getD, List.getElem?_eq_getElem om]; rfl
theorem St.memT {a b : Nat} {L M : List (List AV)} (h : St a b L M) (hab : a ≤ b) (hb : b ≤ L.length) {p : Nat} (hp : a ≤ p) (hq : p < b) : ∃ q, a ≤ q ∧ q < b ∧ tmR M p = tmR L q := by
 obtain ⟨q, h1, h2, e⟩ := h.mem hab hb hp hq
 exact ⟨q, h1, h2, by unfold tmR; rw [e]⟩
def Srt (a b : Nat) (L : List (List AV)) : Prop := ∀ p q, a ≤ p → p < q → q < b → tmR L p ≤ tmR L q
theorem Srt.le {a b : Nat} {L : List (List AV)} (h : Srt a b L) {p q : Nat} (hp : a ≤ p) (hpq : p ≤ q) (hq : q < b) : tmR L p ≤ tmR L q := by
 rcases Nat.lt_or_eq_of_le hpq with h1 | h1
 ·
  exact h p q hp h1 hq
 ·
  rw [h1]; exact Int.le_refl _
theorem Srt.one {a b : Nat} (L : List (List AV)) (h : b ≤ a + 1) : Srt a b L := fun p q h1 h2 h3 => by omega
theorem Srt.sub {a b a' b' : Nat} {L : List (List AV)} (h : Srt a b L) (ha : a ≤ a') (hb : b' ≤ b) : Srt a' b' L := fun p q h1 h2 h3 => h p q om h2 om
theorem Srt.same {a b : Nat} {L M : List (List AV)} (h : Srt a b L) (e : ∀ k, a ≤ k → k < b → tmR M k = tmR L k) : Srt a b M := fun p q h1 h2 h3 => by rw [e p h1 om, e q om h3]; exact h p q h1 h2 h3
theorem Srt.join {a m b : Nat} {L : List (List AV)} (h : Srt a m L) (k : Srt m b L) (x : ∀ p q, a ≤ p → p < m → m ≤ q → q < b → tmR L p ≤ tmR L q) : Srt a b L := fun p q h1 h2 h3 => by
 by_cases c1 : q < m
 ·
  exact h p q h1 h2 c1
 ·
  by_cases c2 : m ≤ p
  ·
   exact k p q c2 h2 h3
  ·
   exact x p q h1 om om h3
structure InsI (a b i : Nat) (L0 L : List (List AV)) (j : Nat) : Prop where
  st : St a b L0 L
  aj : a ≤ j
  ji : j ≤ i
  ord : ∀ p q, a ≤ p → p < q → q ≤ i → p ≠ j → q ≠ j → tmR L p ≤ tmR L q
  hole : ∀ q, j < q → q ≤ i → tmR L j < tmR L q
theorem InsI.start {a b i : Nat} {L0 L : List (List AV)} (h : St a b L0 L) (s : Srt a i L) (ha : a ≤ i) : InsI a b i L0 L i := ⟨h, ha, Nat.le_refl _, fun p q h1 h2 h3 _ h5 => s p q h1 h2 om, fun q h1 h2 => by omega⟩
theorem InsI.step {a b i j : Nat} {L0 L : List (List AV)} (h : InsI a b i L0 L j) (hj : a < j) (hib : i < b) (hb : b ≤ L0.length) (hlt : tmR L j < tmR L (j - 1)) : InsI a b i L0 (swp L j (j - 1)) (j - 1) := by
 obtain ⟨st, aj, ji, ord, hole⟩ := h
 have hl := st.len
 obtain ⟨k, rfl⟩ : ∃ k, j = k + 1 := ⟨j - 1, by omega⟩
 rw [Nat.add_sub_cancel] at *
 have h1 : k + 1 < L.length := by omega
 have e : swp L (k + 1) k = swp L k (k + 1) := swp_comm h1 om
 rw [e]
 have tm := swp_tm (L := L) (i := k) (j := k + 1) om h1
 refine ⟨st.trans ⟨swp_len _ _ _, fun q hq => ?_, FE_swp h1 om⟩, by omega, by omega, fun p q a1 a2 a3 a4 a5 => ?_, fun q a1 a2 => ?_⟩
 ·
  rw [swp_get om h1, if_neg om, if_neg om]
 ·
  rw [tm, tm]
  by_cases c1 : p = k + 1
  ·
   rw [if_pos c1, if_neg om, if_neg om]
   exact ord k q om om a3 om om
  ·
   rw [if_neg c1, if_neg a4]
   by_cases c2 : q = k + 1
   ·
    rw [if_pos c2]; exact ord p k a1 om om om om
   ·
    rw [if_neg c2, if_neg a5]; exact ord p q a1 a2 a3 c1 c2
 ·
  rw [tm, tm, if_neg om, if_pos rfl]
  by_cases c2 : q = k + 1
  ·
   rw [if_pos c2]; exact hlt
  ·
   rw [if_neg c2, if_neg om]; exact hole q om a2
theorem InsI.fin {a b i j : Nat} {L0 L : List (List AV)} (h : InsI a b i L0 L j) (hx : j = a ∨ tmR L (j - 1) ≤ tmR L j) : St a b L0 L ∧ Srt a (i + 1) L := by
 obtain ⟨st, aj, ji, ord, hole⟩ := h
 refine ⟨st, fun p q h1 h2 h3 => ?_⟩
 by_cases c1 : p = j
 ·
  rw [c1]; exact Int.le_of_lt (hole q om om)
 ·
  by_cases c2 : q = j
  ·
   subst c2
   rcases hx with hx | hx
   ·
    omega
   ·
    by_cases c3 : p = q - 1
    ·
     rw [c3]; exact hx
    ·
     exact Int.le_trans (ord p (q - 1) h1 om om c1 om) hx
  ·
   exact ord p q h1 h2 om c1 c2
def rIx (a m b k : Nat) : Nat := if k < a then k else if k < a + (b - m) then k - a + m else if k < b then k - (b - m) else k
def rot (L : List (List AV)) (a m b : Nat) : List (List AV) := L.take a ++ ((L.drop m).take (b - m) ++ ((L.drop a).take (m - a) ++ L.drop b))
theorem rot_len {L : List (List AV)} {a m b : Nat} (h1 : a ≤ m) (h2 : m ≤ b) (h3 : b ≤ L.length) : (rot L a m b).length = L.length := by
 unfold rot
 simp only [List.length_append, List.length_take, List.length_drop]
 omega
theorem rot_get {L : List (List AV)} {a m b : Nat} (h1 : a ≤ m) (h2 : m ≤ b) (h3 : b ≤ L.length) (k : Nat) : (rot L a m b).getD k [] = L.getD (rIx a m b k) [] := by
 unfold rot rIx
 have l1 : (L.take a).length = a := by rw [List.length_take]; omega
 have l2 : ((L.drop m).take (b - m)).length = b - m := by rw [List.length_take, List.length_drop]; omega
 have l3 : ((L.drop a).take (m - a)).length = m - a := by rw [List.length_take, List.length_drop]; omega
 rw [getD_app, l1]
 by_cases c1 : k < a
 ·
  rw [if_pos c1, if_pos c1, getD_take c1]
 ·
  rw [if_neg c1, if_neg c1, getD_app, l2]
  by_cases c2 : k < a + (b - m)
  ·
   rw [if_pos om, if_pos c2, getD_take om, getD_drop]; congr 1; omega
  ·
   rw [if_neg om, if_neg c2, getD_app, l3]
   by_cases c3 : k < b
   ·
    rw [if_pos om, if_pos c3, getD_take om, getD_drop]; congr 1; omega
   ·
    rw [if_neg om, if_neg c3, getD_drop]; congr 1; omega
theorem rot_tm {L : List (List AV)} {a m b : Nat} (h1 : a ≤ m) (h2 : m ≤ b) (h3 : b ≤ L.length) (k : Nat) : tmR (rot L a m b) k = tmR L (rIx a m b k) := by unfold tmR; rw [rot_get h1 h2 h3]
theorem rot_St {L : List (List AV)} {a m b : Nat} (h1 : a ≤ m) (h2 : m ≤ b) (h3 : b ≤ L.length) (h : ∀ p q, a ≤ p → p < m → m ≤ q → q < b → tmR L q < tmR L p) : St a b L (rot L a m b) := by
 refine ⟨rot_len h1 h2 h3, fun k hk => ?_, fun t => ?_⟩
 ·
  rw [rot_get h1 h2 h3]; congr 1; unfold rIx
  split
  ·
   rfl
  ·
   split
   ·
    omega
   ·
    split <;> omega
 ·
  have e2 : L.drop m = (L.drop m).take (b - m) ++ L.drop b := by
   rw [show L.drop b = (L.drop m).drop (b - m) by rw [List.drop_drop]; congr 1; omega, List.take_append_drop]
  have e : L = L.take a ++ ((L.drop a).take (m - a) ++ ((L.drop m).take (b - m) ++ L.drop b)) := by
   rw [← e2]; exact seg3 L a m h1
  conv => lhs; rw [e]
  unfold rot
  simp only [List.filter_append]
  congr 1
  rw [← List.append_assoc, ← List.append_assoc]
  congr 1
  by_cases c : ((L.drop a).take (m - a)).filter (fun m => decide (timeR m = t)) = []
  ·
   rw [c, List.nil_append, List.append_nil]
  ·
   have c2 : ((L.drop m).take (b - m)).filter (fun m => decide (timeR m = t)) = [] := by
    rw [List.filter_eq_nil_iff]
    intro y hy hy2
    obtain ⟨x, hx⟩ := List.exists_mem_of_ne_nil _ c
    obtain ⟨hx1, hx2⟩ := List.mem_filter.1 hx
    obtain ⟨p, hp, ep⟩ := List.getElem_of_mem hx1
    obtain ⟨q, hq, eq⟩ := List.getElem_of_mem hy
    rw [List.length_take, List.length_drop] at hp hq
    have hlt := h (a + p) (m + q) om om om om
    have tp : tmR L (a + p) = timeR x := by
     rw [← ep, List.getElem_take, List.getElem_drop]; unfold tmR; rw [List.getD_eq_getElem?_getD, List.getElem?_eq_getElem om]; rfl
    have tq : tmR L (m + q) = timeR y := by
     rw [← eq, List.getElem_take, List.getElem_drop]; unfold tmR; rw [List.getD_eq_getElem?_getD, List.getElem?_eq_getElem om]; rfl
    have ze1 : timeR x = t := by simpa using hx2
    have ze2 : timeR y = t := by simpa using hy2
    omega
   rw [c2, List.nil_append, List.append_nil]
def sIx (a c n k : Nat) : Nat := if a ≤ k ∧ k < a + n then k - a + c else if c ≤ k ∧ k < c + n then k - c + a else k
def swN (L : List (List AV)) (a c : Nat) : Nat → List (List AV)
 | 0 => L
 | i + 1 => swp (swN L a c i) (a + i) (c + i)
theorem swN_len (L : List (List AV)) (a c : Nat) : ∀ i, (swN L a c i).length = L.length
 | 0 => rfl
 | i + 1 => (swp_len _ _ _).trans (swN_len L a c i)
theorem swN_get {L : List (List AV)} {a c : Nat} : ∀ n, a + n ≤ c → c + n ≤ L.length → ∀ k, (swN L a c n).getD k [] = L.getD (sIx a c n k) []
 | 0, _, _, k => by unfold sIx; rw [if_neg om, if_neg om]; rfl
 | n + 1, h1, h2, k => by
  have ih := swN_get (L := L) (a := a) (c := c) n om om
  show (swp (swN L a c n) (a + n) (c + n)).getD k [] = _
  rw [swp_get (i := a + n) (j := c + n) (by rw [swN_len]; omega) (by rw [swN_len]; omega), ih, ih, ih]
  unfold sIx
  by_cases c1 : k = c + n
  ·
   rw [if_pos c1, if_neg om, if_neg om, if_neg om, if_pos om]; congr 1; omega
  ·
   rw [if_neg c1]
   by_cases c2 : k = a + n
   ·
    rw [if_pos c2, if_neg om, if_neg om, if_pos om]; congr 1; omega
   ·
    rw [if_neg c2]
    by_cases c3 : a ≤ k ∧ k < a + n
    ·
     rw [if_pos c3, if_pos om]
    ·
     rw [if_neg c3, if_neg (show ¬ (a ≤ k ∧ k < a + (n + 1)) by omega)]
     by_cases c4 : c ≤ k ∧ k < c + n
     ·
      rw [if_pos c4, if_pos om]
     ·
      rw [if_neg c4, if_neg om]
theorem rot_gt {L : List (List AV)} {m i j : Nat} (hi : i ≤ m) (hij : j < i) (h : m + j ≤ L.length) : rot (swN L (m - i) m j) (m - (i - j)) m (m + j) = rot L (m - i) m (m + j) := by
 have hl := swN_len L (m - i) m j
 refine ext_getD (by rw [rot_len om om om, rot_len om om h, hl]) fun k => ?_
 rw [rot_get om om om, rot_get om om h, swN_get j om h]
 congr 1
 unfold rIx sIx
 repeat' split
 all_goals omega
theorem rot_lt {L : List (List AV)} {m i j : Nat} (hi : i ≤ m) (hij : i < j) (h : m + j ≤ L.length) : rot (swN L (m - i) (m + j - i) i) (m - i) m (m + (j - i)) = rot L (m - i) m (m + j) := by
 have hl := swN_len L (m - i) (m + j - i) i
 refine ext_getD (by rw [rot_len om om om, rot_len om om h, hl]) fun k => ?_
 rw [rot_get om om om, rot_get om om h, swN_get i om om]
 congr 1
 unfold rIx sIx
 repeat' split
 all_goals omega
theorem rot_eq {L : List (List AV)} {m i : Nat} (hi : i ≤ m) (h : m + i ≤ L.length) : swN L (m - i) m i = rot L (m - i) m (m + i) := by
 refine ext_getD (by rw [swN_len, rot_len om om h]) fun k => ?_
 rw [swN_get i om h, rot_get om om h]
 congr 1
 unfold rIx sIx
 repeat' split
 all_goals omega
end Go.Proofs.Ytnleibiniajbnaa
