/- Plain laws: readings with times that come again left out; readings put into feeds. -/
import Derived.Test.YtnleibiniajbnaaTSrtP
import Derived.Test.YtnleibiniajbnaaSxE
set_option linter.unusedVariables false
set_option linter.unusedSimpArgs false
namespace Go.Proofs.Ytnleibiniajbnaa
open Go.Ab
set_option maxRecDepth 100000
def cmN (L : List (List AV)) : Nat → List (List AV)
 | 0 => []
 | n + 1 => if n = 0 ∨ tmR L (n - 1) ≠ tmR L n then cmN L n ++ [L.getD n []] else cmN L n
theorem cmN_len (L : List (List AV)) : ∀ n, (cmN L n).length ≤ n
 | 0 => Nat.le_refl _
 | n + 1 => by
  have := cmN_len L n
  unfold cmN
  split
  ·
   rw [List.length_append, List.length_singleton]; omega
  ·
   omega
theorem take_succ_getD {L : List (List AV)} {n : Nat} (h : n < L.length) : L.take (n + 1) = L.take n ++ [L.getD n []] := by
 rw [List.take_add_one, List.getD_eq_getElem?_getD, List.getElem?_eq_getElem h]; rfl
theorem cmN_id {L : List (List AV)} : ∀ n, n ≤ L.length → (∀ q, 0 < q → q < n → tmR L (q - 1) ≠ tmR L q) → cmN L n = L.take n
 | 0, _, _ => by rw [List.take_zero]; rfl
 | n + 1, hn, h => by
  have ih := cmN_id n om fun q c1 c2 => h q c1 om
  unfold cmN
  rw [if_pos (by by_cases c : n = 0; exact .inl c; exact .inr (h n om om)), ih, take_succ_getD om]
theorem take1_app {α : Type} {A B : List α} : (A ++ B).take 1 = if A = [] then B.take 1 else A.take 1 := by
 cases A with
 | nil => rw [if_pos rfl]; rfl
 | cons a A => rw [if_neg (by simp)]; rfl
theorem atT_one (t : Int) (m : List AV) : atT t [m] = if timeR m = t then [m] else [] := by rw [atT_cons]; rfl
theorem cmN_law {L : List (List AV)} (hs : Srt 0 L.length L) : ∀ n, n ≤ L.length → (Asc (cmN L n) ∧ (∀ t, atT t (cmN L n) = (atT t (L.take n)).take 1) ∧ ∀ k, k < (cmN L n).length → tmR (cmN L n) k ≤ tmR L (n - 1))
 | 0, _ => ⟨fun p q _ h => absurd h (Nat.not_lt_zero _), fun t => by rw [List.take_zero]; rfl, fun k h => absurd h (Nat.not_lt_zero _)⟩
 | n + 1, hn => by
  obtain ⟨ia, it, il⟩ := cmN_law hs n om
  have hmono : n = 0 ∨ tmR L (n - 1) ≤ tmR L n := by
   by_cases c : n = 0
   ·
    exact .inl c
   ·
    exact .inr (hs _ _ om om om)
  rw [take_succ_getD om]
  unfold cmN
  by_cases c : n = 0 ∨ tmR L (n - 1) ≠ tmR L n
  ·
   rw [if_pos c]
   have hlt : ∀ k, k < (cmN L n).length → tmR (cmN L n) k < tmR L n := fun k hk => by
    have h1 := il k hk
    rcases c with c | c
    ·
     subst c; exact absurd hk (Nat.not_lt_zero _)
    ·
     rcases hmono with h | h
     ·
      subst h; exact absurd hk (Nat.not_lt_zero _)
     ·
      omega
   have hg : ∀ k, tmR (cmN L n ++ [L.getD n []]) k = if k < (cmN L n).length then tmR (cmN L n) k else if k = (cmN L n).length then tmR L n else 0 := fun k => by
    unfold tmR
    rw [getD_app]
    split
    ·
     rfl
    ·
     split
     ·
      rename_i h1 h2; rw [h2, Nat.sub_self]; rfl
     ·
      rw [getD_over (by simp; omega)]; rfl
   refine ⟨fun p q h1 h2 => ?_, fun t => ?_, fun k hk => ?_⟩
   ·
    rw [List.length_append, List.length_singleton] at h2
    rw [hg, hg, if_pos om]
    by_cases c2 : q < (cmN L n).length
    ·
     rw [if_pos c2]; exact ia p q h1 c2
    ·
     rw [if_neg c2, if_pos om]; exact hlt p om
   ·
    rw [atT_app, atT_app, it, take1_app, atT_one]
    by_cases c3 : timeR (L.getD n []) = t
    ·
     have e0 : atT t (cmN L n) = [] := atT_nil fun k hk => by have := hlt k hk; unfold tmR at this; unfold tmR; omega
     have e1 := it t
     rw [e0] at e1
     have e2 : atT t (L.take n) = [] := by
      cases hx : atT t (L.take n) with
      | nil => rfl
      | cons a b => rw [hx] at e1; simp at e1
     rw [e2, if_pos rfl, if_pos c3]; rfl
    ·
     rw [if_neg c3]
     split
     ·
      rename_i h; rw [h]
      simp
     ·
      simp
   ·
    rw [List.length_append, List.length_singleton] at hk
    rw [hg, Nat.add_sub_cancel]
    by_cases c2 : k < (cmN L n).length
    ·
     rw [if_pos c2]; exact Int.le_of_lt (hlt k c2)
    ·
     rw [if_neg c2, if_pos om]; exact Int.le_refl _
  ·
   rw [if_neg c]
   have c0 : n ≠ 0 := fun h => c (.inl h)
   have c1 : tmR L (n - 1) = tmR L n := by
    by_cases h : tmR L (n - 1) = tmR L n
    ·
     exact h
    ·
     exact absurd (.inr h) c
   refine ⟨ia, fun t => ?_, fun k hk => by rw [Nat.add_sub_cancel, ← c1]; exact il k hk⟩
   rw [atT_app, it, take1_app, atT_one]
   split
   ·
    rename_i h
    rw [h]
    split
    ·
     rename_i h2
     exfalso
     have hm : L.getD (n - 1) [] ∈ atT t (L.take n) := by
      refine List.mem_filter.2 ⟨?_, by unfold tmR at c1; simpa using c1.trans h2⟩
      have e : (L.take n).getD (n - 1) [] = L.getD (n - 1) [] := getD_take om
      rw [← e, List.getD_eq_getElem?_getD, List.getElem?_eq_getElem (by rw [List.length_take]; omega)]
      exact List.getElem_mem _
     rw [h] at hm
     cases hm
    ·
     rfl
   ·
    rfl
def atN (L : List (List AV)) (t : Int) : Nat := (L.filter (fun m => decide (timeR m < t))).length
open Classical in
noncomputable def putL (L : List (List AV)) (m : List AV) : List (List AV) := if atT (timeR m) L = [] then L.take (atN L (timeR m)) ++ (m :: L.drop (atN L (timeR m))) else L
theorem atN_is {L : List (List AV)} {t : Int} {n : Nat} (hn : n ≤ L.length) (h1 : ∀ q, q < n → tmR L q < t) (h2 : ∀ q, n ≤ q → q < L.length → t ≤ tmR L q) : atN L t = n := by
 unfold atN
 rw [← List.take_append_drop n L, List.filter_append]
 have e1 : (L.take n).filter (fun m => decide (timeR m < t)) = L.take n := by
  rw [List.filter_eq_self]
  intro m hm
  obtain ⟨q, hq, rfl⟩ := List.getElem_of_mem hm
  rw [List.length_take] at hq
  have := h1 q om
  unfold tmR at this
  rw [List.getD_eq_getElem?_getD, List.getElem?_eq_getElem om, Option.getD_some] at this
  rw [List.getElem_take]
  simpa using this
 have e2 : (L.drop n).filter (fun m => decide (timeR m < t)) = [] := by
  rw [List.filter_eq_nil_iff]
  intro m hm
  obtain ⟨q, hq, rfl⟩ := List.getElem_of_mem hm
  rw [List.length_drop] at hq
  have := h2 (n + q) om om
  unfold tmR at this
  rw [List.getD_eq_getElem?_getD, List.getElem?_eq_getElem om, Option.getD_some] at this
  rw [List.getElem_drop]
  simp only [decide_eq_true_eq]
  omega
 rw [e1, e2, List.append_nil, List.length_take]
 omega
theorem atN_asc {L : List (List AV)} (h : Asc L) (t : Int) : atN L t ≤ L.length ∧ (∀ q, q < atN L t → tmR L q < t) ∧ ∀ q, atN L t ≤ q → q < L.length → t ≤ tmR L q := by
 -- there is such a place
 have : ∃ n, n ≤ L.length ∧ (∀ q, q < n → tmR L q < t) ∧ ∀ q, n ≤ q → q < L.length → t ≤ tmR L q := by
  have key : ∀ k, k ≤ L.length → ∃ n, n ≤ k ∧ (∀ q, q < n → tmR L q < t) ∧ ∀ q, n ≤ q → q < k → t ≤ tmR L q := by
   intro k
   induction k with
   | zero => exact fun _ => ⟨0, Nat.le_refl _, fun q h => absurd h (Nat.not_lt_zero _), fun q _ h => absurd h (Nat.not_lt_zero _)⟩
   | succ k ih =>
    intro hk
    obtain ⟨n, c1, c2, c3⟩ := ih om
    by_cases c : n = k ∧ tmR L k < t
    ·
     exact ⟨k + 1, Nat.le_refl _, fun q hq => by
      by_cases e : q = k
      ·
       rw [e]; exact c.2
      ·
       exact c2 q om, fun q h1 h2 => by omega⟩
    ·
     refine ⟨n, by omega, c2, fun q h1 h2 => ?_⟩
     by_cases e : q = k
     ·
      subst e
      by_cases e2 : n = q
      ·
       have : ¬ tmR L q < t := fun h => c ⟨e2, h⟩
       omega
      ·
       have := c3 (q - 1) om om
       have := h (q - 1) q om om
       omega
     ·
      exact c3 q h1 om
  exact key L.length (Nat.le_refl _)
 obtain ⟨n, c1, c2, c3⟩ := this
 rw [atN_is c1 c2 c3]
 exact ⟨c1, c2, c3⟩
theorem put_law {L : List (List AV)} (h : Asc L) (m : List AV) : Asc (putL L m) ∧ ∀ t, atT t (putL L m) = (atT t (L ++ [m])).take 1 := by
 have once : ∀ t, (atT t L).take 1 = atT t L := fun t => by
  -- at most one reading at a time
  have : ∀ (L : List (List AV)), Asc L → (atT t L).take 1 = atT t L := by
   intro L
   induction L with
   | nil => intro _; rfl
   | cons x L ih =>
    intro h
    obtain ⟨l1, l2⟩ := asc_tail h
    rw [atT_cons]
    split
    ·
     rename_i e
     rw [atT_nil fun k hk => by have := l2 k hk; omega]; rfl
    ·
     exact ih l1
  exact this L h
 obtain ⟨n1, n2, n3⟩ := atN_asc h (timeR m)
 unfold putL
 split
 ·
  rename_i h0
  have hne : ∀ q, q < L.length → tmR L q ≠ timeR m := fun q hq e => by
   have : L.getD q [] ∈ atT (timeR m) L := List.mem_filter.2 ⟨by rw [List.getD_eq_getElem?_getD, List.getElem?_eq_getElem hq]; exact List.getElem_mem _, by simpa [tmR] using e⟩
   rw [h0] at this; cases this
  generalize atN L (timeR m) = n at *
  have lt : (L.take n).length = n := by rw [List.length_take]; omega
  have hg : ∀ k, tmR (L.take n ++ (m :: L.drop n)) k = if k < n then tmR L k else if k = n then timeR m else tmR L (k - 1) := fun k => by
   unfold tmR
   rw [getD_app, lt]
   split
   ·
    rename_i h1; rw [getD_take h1]
   ·
    split
    ·
     rename_i h1 h2; rw [h2, Nat.sub_self]; rfl
    ·
     rename_i h1 h2
     rw [show k - n = (k - 1 - n) + 1 by omega]
     show timeR ((L.drop n).getD (k - 1 - n) []) = _
     rw [getD_drop, show n + (k - 1 - n) = k - 1 by omega]
  refine ⟨fun p q c1 c2 => ?_, fun t => ?_⟩
  ·
   simp only [List.length_append, List.length_cons, List.length_drop, lt] at c2
   rw [hg, hg]
   by_cases p1 : p < n
   ·
    rw [if_pos p1]
    by_cases q1 : q < n
    ·
     rw [if_pos q1]; exact h p q c1 om
    ·
     rw [if_neg q1]
     by_cases q2 : q = n
     ·
      rw [if_pos q2]; exact n2 p p1
     ·
      rw [if_neg q2]; exact h p (q - 1) om om
   ·
    rw [if_neg p1]
    by_cases p2 : p = n
    ·
     rw [if_pos p2, if_neg (show ¬ q < n by omega), if_neg (show ¬ q = n by omega)]
     have := n3 (q - 1) om om
     have := hne (q - 1) om
     omega
    ·
     rw [if_neg p2, if_neg (show ¬ q < n by omega), if_neg (show ¬ q = n by omega)]; exact h (p - 1) (q - 1) om om
  ·
   rw [atT_app, atT_app, take1_app, atT_one, atT_cons]
   by_cases c : timeR m = t
   ·
    rw [if_pos c, ← c, h0, if_pos rfl, if_pos rfl]
    have e := h0
    rw [← List.take_append_drop n L, atT_app] at e
    have e1 := List.append_eq_nil_iff.1 e
    rw [e1.1, e1.2]; rfl
   ·
    rw [if_neg c, if_neg c]
    rw [← atT_app, List.take_append_drop]
    split
    ·
     rename_i h2; rw [h2]; rfl
    ·
     exact (once t).symm
 ·
  rename_i h0
  refine ⟨h, fun t => ?_⟩
  rw [atT_app, take1_app, atT_one]
  split
  ·
   rename_i h2
   rw [h2]
   split
   ·
    rename_i h3; rw [h3] at h0; exact absurd h2 h0
   ·
    rfl
  ·
   exact (once t).symm
noncomputable def putN (A B : List (List AV)) : Nat → List (List AV)
 | 0 => A
 | i + 1 => putL (putN A B i) (B.getD i [])
theorem take1_idem {α : Type} (A B : List α) : (A.take 1 ++ B).take 1 = (A ++ B).take 1 := by
 cases A with
 | nil => rfl
 | cons a A => rfl
theorem putN_law {A B : List (List AV)} (hA : Asc A) : ∀ i, i ≤ B.length → Asc (putN A B i) ∧ ∀ t, atT t (putN A B i) = (atT t (A ++ B.take i)).take 1
 | 0, _ => ⟨hA, fun t => by
   have := (put_law hA []).2
   rw [List.take_zero, List.append_nil]
   have once : ∀ (L : List (List AV)), Asc L → (atT t L).take 1 = atT t L := by
    intro L
    induction L with
    | nil => intro _; rfl
    | cons x L ih =>
     intro h
     obtain ⟨l1, l2⟩ := asc_tail h
     rw [atT_cons]
     split
     ·
      rename_i e
      rw [atT_nil fun k hk => by have := l2 k hk; omega]; rfl
     ·
      exact ih l1
   exact (once A hA).symm⟩
 | i + 1, hi => by
  obtain ⟨ia, it⟩ := putN_law (B := B) hA i om
  obtain ⟨pa, pt⟩ := put_law ia (B.getD i [])
  refine ⟨pa, fun t => ?_⟩
  show atT t (putL (putN A B i) (B.getD i [])) = _
  rw [pt, atT_app, it, take1_idem, ← atT_app, take_succ_getD (L := B) (n := i) om, List.append_assoc]
theorem feed_asc {L : List (List AV)} (h : okFeed L = true) : Asc L ∧ L.length ≤ 256 := by
 unfold okFeed at h
 rw [Bool.and_eq_true] at h
 have h1 := of_decide_eq_true h.1
 refine ⟨?_, h1⟩
 have step : ∀ q, 0 < q → q < L.length → tmR L (q - 1) < tmR L q := fun q c1 c2 => by
  have := List.all_eq_true.1 h.2 q (by simpa using c2)
  have := of_decide_eq_true this
  exact this.2 c1
 intro p q
 induction q with
 | zero => intro h; omega
 | succ q ih =>
  intro c1 c2
  have s := step (q + 1) om c2
  rw [Nat.add_sub_cancel] at s
  by_cases e : p = q
  ·
   rw [e]; exact s
  ·
   exact Int.lt_trans (ih om om) s
theorem merge_law {A B M : List (List AV)} (hA : Asc A) (st : St 0 (A ++ B).length (A ++ B) M) (so : Srt 0 (A ++ B).length M) : cmN M M.length = putN A B B.length := by
 have hl := st.len
 obtain ⟨c1, c2, _⟩ := cmN_law (L := M) (by rw [hl]; exact so) M.length (Nat.le_refl _)
 obtain ⟨p1, p2⟩ := putN_law (B := B) hA B.length (Nat.le_refl _)
 refine asc_uniq c1 p1 fun t => ?_
 rw [c2, p2, List.take_length, List.take_length]
 exact congrArg _ (st.fe t).symm
end Go.Proofs.Ytnleibiniajbnaa
