/- Plain laws: lists sorted in blocks; feeds merged. -/
import Derived.Test.YtnleibiniajbnaaTSrtM
import Derived.Test.YtnleibiniajbnaaSxE
set_option linter.unusedVariables false
set_option linter.unusedSimpArgs false
namespace Go.Proofs.Ytnleibiniajbnaa
open Go.Ab
set_option maxRecDepth 100000
def BR (bs s e : Nat) (L : List (List AV)) : Prop := ∀ p q, s ≤ p → p < q → q < e → p / bs = q / bs → tmR L p ≤ tmR L q
theorem blk_in {bs a p : Nat} (h0 : 0 < bs) (ha : a % bs = 0) (h1 : a ≤ p) (h2 : p < a + bs) : p / bs = a / bs := by
 obtain ⟨k, rfl⟩ : ∃ k, a = bs * k := ⟨a / bs, (Nat.mul_div_cancel' (Nat.dvd_of_mod_eq_zero ha)).symm⟩
 obtain ⟨r, rfl⟩ : ∃ r, p = bs * k + r := ⟨p - bs * k, by omega⟩
 rw [Nat.mul_add_div h0, Nat.mul_div_cancel_left _ h0, Nat.div_eq_of_lt om]; rfl
theorem blk_ge {bs a p : Nat} (h0 : 0 < bs) (ha : a % bs = 0) (h : p / bs = a / bs) : a ≤ p := by
 obtain ⟨k, rfl⟩ : ∃ k, a = bs * k := ⟨a / bs, (Nat.mul_div_cancel' (Nat.dvd_of_mod_eq_zero ha)).symm⟩
 rw [Nat.mul_div_cancel_left _ h0] at h
 have := Nat.div_mul_le_self p bs
 rw [h, Nat.mul_comm] at this
 exact this
theorem br_srt {bs s e a b : Nat} {L : List (List AV)} (h0 : 0 < bs) (ha : a % bs = 0) (hs : s ≤ a) (hb : b ≤ a + bs) (he : b ≤ e) (h : BR bs s e L) : Srt a b L := fun p q c1 c2 c3 => h p q om c2 om ((blk_in h0 ha c1 om).trans (blk_in h0 ha om om).symm)
theorem br_step {bs a e : Nat} {L M : List (List AV)} (h0 : 0 < bs) (ha : a % bs = 0) (he : e ≤ a + bs) (h : BR bs 0 a L) (st : St a e L M) (so : Srt a e M) : BR bs 0 e M := fun p q c1 c2 c3 c4 => by
 by_cases d : q < a
 ·
  have f1 : tmR M p = tmR L p := by unfold tmR; rw [st.out p (.inl om)]
  have f2 : tmR M q = tmR L q := by unfold tmR; rw [st.out q (.inl d)]
  rw [f1, f2]; exact h p q c1 c2 d c4
 ·
  have hq := blk_in h0 ha (show a ≤ q by omega) (show q < a + bs by omega)
  exact so p q (blk_ge h0 ha (c4.trans hq)) c2 c3
theorem br_rest {bs a b e : Nat} {L M : List (List AV)} (hab : a ≤ b) (h : BR bs a e L) (st : St a b L M) : BR bs b e M := fun p q c1 c2 c3 c4 => by
 have f1 : tmR M p = tmR L p := by unfold tmR; rw [st.out p (.inr c1)]
 have f2 : tmR M q = tmR L q := by unfold tmR; rw [st.out q (.inr om)]
 rw [f1, f2]; exact h p q om c2 c3 c4
theorem br_all {bs n : Nat} {L : List (List AV)} (hn : n ≤ bs) (h : BR bs 0 n L) : Srt 0 n L := fun p q c1 c2 c3 => h p q c1 c2 c3 (by rw [Nat.div_eq_of_lt om, Nat.div_eq_of_lt om])
theorem mod_add2 {a bs : Nat} (h : a % (2 * bs) = 0) : a % bs = 0 ∧ (a + bs) % bs = 0 ∧ (a + 2 * bs) % (2 * bs) = 0 := by
 have h1 : a % bs = 0 := Nat.mod_eq_zero_of_dvd (Nat.dvd_trans ⟨2, Nat.mul_comm 2 bs⟩ (Nat.dvd_of_mod_eq_zero h))
 exact ⟨h1, by rw [Nat.add_mod_right]; exact h1, by rw [Nat.add_mod_right]; exact h⟩
theorem mod_add1 {a bs : Nat} (h : a % bs = 0) : (a + bs) % bs = 0 := by rw [Nat.add_mod_right]; exact h
def Asc (L : List (List AV)) : Prop := ∀ p q, p < q → q < L.length → tmR L p < tmR L q
def atT (t : Int) (L : List (List AV)) : List (List AV) := L.filter (fun m => decide (timeR m = t))
theorem atT_cons (t : Int) (x : List AV) (L : List (List AV)) : atT t (x :: L) = if timeR x = t then x :: atT t L else atT t L := by
 unfold atT
 rw [List.filter_cons]
 simp only [decide_eq_true_eq]
theorem atT_app (t : Int) (L M : List (List AV)) : atT t (L ++ M) = atT t L ++ atT t M := List.filter_append ..
theorem atT_nil {t : Int} {L : List (List AV)} (h : ∀ k, k < L.length → tmR L k ≠ t) : atT t L = [] := by
 unfold atT
 rw [List.filter_eq_nil_iff]
 intro m hm e
 obtain ⟨k, hk, rfl⟩ := List.getElem_of_mem hm
 refine h k hk ?_
 unfold tmR
 rw [List.getD_eq_getElem?_getD, List.getElem?_eq_getElem hk]
 simpa using e
theorem asc_tail {x : List AV} {L : List (List AV)} (h : Asc (x :: L)) : Asc L ∧ ∀ k, k < L.length → timeR x < tmR L k := ⟨fun p q c1 c2 => h (p + 1) (q + 1) om (by simp; omega), fun k hk => h 0 (k + 1) om (by simp; omega)⟩
theorem asc_uniq : ∀ {L M : List (List AV)}, Asc L → Asc M → (∀ t, atT t L = atT t M) → L = M
 | [], [], _, _, _ => rfl
 | [], y :: M, _, _, e => by have := e (timeR y); rw [atT_cons, if_pos rfl] at this; simp [atT] at this
 | x :: L, [], _, _, e => by have := e (timeR x); rw [atT_cons, if_pos rfl] at this; simp [atT] at this
 | x :: L, y :: M, hL, hM, e => by
  obtain ⟨l1, l2⟩ := asc_tail hL
  obtain ⟨m1, m2⟩ := asc_tail hM
  have nx : atT (timeR x) L = [] := atT_nil fun k hk => by have := l2 k hk; omega
  have ny : atT (timeR y) M = [] := atT_nil fun k hk => by have := m2 k hk; omega
  have hxy : timeR x = timeR y := by
   have e1 := e (timeR x)
   have e2 := e (timeR y)
   rw [atT_cons, if_pos rfl, nx, atT_cons] at e1
   rw [atT_cons, atT_cons, if_pos rfl, ny] at e2
   by_cases c : timeR y = timeR x
   ·
    exact c.symm
   ·
    rw [if_neg c] at e1
    rw [if_neg (fun h => c h.symm)] at e2
    -- x lies in M, y lies in L
    have c1 : timeR y < timeR x := by
     have hm : x ∈ atT (timeR x) M := by rw [← e1]; simp
     obtain ⟨k, hk, ek⟩ := List.getElem_of_mem (List.mem_filter.1 hm).1
     have := m2 k hk
     unfold tmR at this
     rw [List.getD_eq_getElem?_getD, List.getElem?_eq_getElem hk, Option.getD_some, ek] at this
     exact this
    have c2 : timeR x < timeR y := by
     have hm : y ∈ atT (timeR y) L := by rw [e2]; simp
     obtain ⟨k, hk, ek⟩ := List.getElem_of_mem (List.mem_filter.1 hm).1
     have := l2 k hk
     unfold tmR at this
     rw [List.getD_eq_getElem?_getD, List.getElem?_eq_getElem hk, Option.getD_some, ek] at this
     exact this
    omega
  have e1 := e (timeR x)
  rw [atT_cons, if_pos rfl, nx, atT_cons, if_pos hxy.symm, hxy, ny] at e1
  injection e1 with e1 _
  subst e1
  refine congrArg _ (asc_uniq l1 m1 fun t => ?_)
  have := e t
  rw [atT_cons, atT_cons] at this
  by_cases c : timeR x = t
  ·
   rw [if_pos c, if_pos c] at this; injection this
  ·
   rwa [if_neg c, if_neg c] at this
end Go.Proofs.Ytnleibiniajbnaa
