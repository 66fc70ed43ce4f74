/- Drawn regions are sound. -/
import Derived.Test.YtgjhjemmddojfaaAb14
import Derived.Still
set_option linter.unusedVariables false
set_option linter.unusedSimpArgs false
namespace Go.Ab

section
variable {F : Nat → Prop} {μ : Mu} {H : AHeap} {w : World} {P : Program}

/-- A row that lay nowhere comes to lie in a new block. -/
theorem Sim.realise (hs : Sim F μ H w) {l : Nat} {cs : List AV} {c : Array Value} {e : TypeId} (hg : H.get l = some (.row cs true)) (hm : μ l = none) (hl : cs.length ≤ c.size) (hr : ∀ (i : Nat) (a : AV), cs[i]? = some a → ∃ v, c[i]? = some v ∧ R μ a v) (n : Nat) :
    Sim F (μ.plus l ⟨w.heap.size, 0, c.size⟩) H { w with heap := w.heap.push (.cells c e), drawn := n } := by
  have hle : μ.le (μ.plus l ⟨w.heap.size, 0, c.size⟩) := fun l' li' h => by
    unfold Mu.plus
    rw [if_neg (fun e => by subst e; rw [hm] at h; cases h)]; exact h
  have hnew : ∀ l', l' ≠ l → μ.plus l ⟨w.heap.size, 0, c.size⟩ l' = μ l' := fun l' h => by unfold Mu.plus; rw [if_neg h]
  have hat : μ.plus l ⟨w.heap.size, 0, c.size⟩ l = some ⟨w.heap.size, 0, c.size⟩ := by unfold Mu.plus; rw [if_pos rfl]
  have hpush : ∀ b, b < w.heap.size → ({ w with heap := w.heap.push (.cells c e), drawn := n } : World).heap[b]? = w.heap[b]? := fun b hb => push_get _ _ _ hb
  refine ⟨?_, ?_, ?_, ?_, ?_, ?_⟩
  · intro l' li h
    by_cases hl' : l' = l
    · subst hl'
      rw [hat] at h
      cases h
      exact ⟨H.lt_of_get hg, by simp⟩
    · rw [hnew l' hl'] at h
      obtain ⟨h1, h2⟩ := hs.dom l' li h
      exact ⟨h1, by simp; omega⟩
  · intro l' li cs' wr hg' hm'
    by_cases hl' : l' = l
    · subst hl'
      rw [hg] at hg'
      cases hg'
      rw [hat] at hm'
      cases hm'
      refine ⟨c, e, 0, 0, by simp, by simp, hl, ?_, ?_⟩
      · intro i a hi
        obtain ⟨v, hv, hR⟩ := hr i a hi
        exact ⟨v, by simpa using hv, hR.mono hle⟩
      · intro _ o _ _; omega
    · rw [hnew l' hl'] at hm'
      obtain ⟨c', e', lo, hi, h1, h2, h3, h4, h5⟩ := hs.row l' li cs' wr hg' hm'
      refine ⟨c', e', lo, hi, by rw [hpush _ (hs.dom l' li hm').2]; exact h1, h2, h3, ?_, h5⟩
      intro i a hi'
      obtain ⟨v, hv, hR⟩ := h4 i a hi'
      exact ⟨v, hv, hR.mono hle⟩
  · intro l' li es hg' hm'
    by_cases hl' : l' = l
    · subst hl'; rw [hg] at hg'; cases hg'
    · rw [hnew l' hl'] at hm'
      obtain ⟨ms, ck, h1, h2, h3⟩ := hs.mp l' li es hg' hm'
      exact ⟨ms, ck, by rw [hpush _ (hs.dom l' li hm').2]; exact h1, h2, fun i e m he hm' => ⟨(h3 i e m he hm').1.mono hle, (h3 i e m he hm').2.mono hle⟩⟩
  · intro l1 l2 b1 b2 li1 li2 hne hg1 hw hg2 hm1 hm2
    by_cases h1 : l1 = l
    · subst h1
      rw [hat] at hm1
      cases hm1
      rw [hnew l2 (Ne.symm hne)] at hm2
      have := (hs.dom l2 li2 hm2).2
      simp only [ne_eq]; omega
    · rw [hnew l1 h1] at hm1
      by_cases h2 : l2 = l
      · subst h2
        rw [hat] at hm2
        cases hm2
        have := (hs.dom l1 li1 hm1).2
        simp only [ne_eq]; omega
      · rw [hnew l2 h2] at hm2
        exact hs.sep l1 l2 b1 b2 li1 li2 hne hg1 hw hg2 hm1 hm2
  · intro l1 b li hg1 hw hm1
    by_cases h1 : l1 = l
    · subst h1
      rw [hat] at hm1
      cases hm1
      exact hs.fresh _ (Nat.le_refl _)
    · rw [hnew l1 h1] at hm1
      exact hs.may l1 b li hg1 hw hm1
  · intro b hb
    exact hs.fresh b (by simp at hb; omega)
end

section
variable (cos : Nat → AOper)
def maskd (pend : List Nat) (E : Env) : Env := fun t => if pend.any (fun p => (cos p).dst == some t) = true then .any else E t

/-- What is promised of an operation that has been done ahead. -/
def PendOk (n0 : Nat) (E : Env) (H : AHeap) (μ : Mu) (o : AOper) : Prop :=
  (o.op.quiet = true ∧ match o.guard with
    | none => ∃ r, aval E H.get o.op = some r ∧ ∀ d, o.dst = some d → E d = r
    | some (t, want) => (E t).det ∧ if (E t).yb = some want then ∃ r, aval E H.get o.op = some r ∧ ∀ d, o.dst = some d → E d = r else ∀ d, o.dst = some d → E d = .undef) ∨
  (∃ zs d l, o.op = .alloc zs ∧ o.guard = none ∧ o.dst = some d ∧ E d = .ptr l 0 ∧ H.get l = some (.row zs true) ∧ μ l = none ∧ n0 ≤ l)
end

section
variable {P : Program} {N : Nat} {cos : Nat → AOper} {F : Nat → Prop} {n0 : Nat} {μ0 : Mu} {w0 : World}

theorem PendOk.stable {E E' : Env} {H H' : AHeap} {μ μ' : Mu} {o : AOper} (h : PendOk n0 E H μ o) (hr : ∀ t ∈ o.readsG, E t = E' t) (hd : ∀ d, o.dst = some d → E' d = E d) (hg : Grew H H' ∨ o.op.free = true) (hm : ∀ l, l < H.next → μ' l = μ l) : PendOk n0 E' H' μ' o := by
  have hop : ∀ t ∈ o.op.reads, E t = E' t := fun t ht => hr t (by unfold AOper.readsG; exact List.mem_append_left _ ht)
  have hval : ∀ r, aval E H.get o.op = some r → aval E' H'.get o.op = some r := by
    intro r h
    rw [aval_agree hop] at h
    rcases hg with hg | hg
    · exact aval_grew hg h
    · rw [← aval_free (g := H.get) hg]; exact h
  rcases h with ⟨hq, h⟩ | ⟨zs, d, l, h1, h2, h3, h4, h5, h6, h7⟩
  · left
    refine ⟨hq, ?_⟩
    cases hgd : o.guard with
    | none =>
      rw [hgd] at h
      obtain ⟨r, h1, h2⟩ := h
      exact ⟨r, hval r h1, fun d e => (hd d e).trans (h2 d e)⟩
    | some tw =>
      obtain ⟨t, want⟩ := tw
      rw [hgd] at h
      have ht : E t = E' t := hr t (by unfold AOper.readsG; rw [hgd]; simp)
      simp only [] at h ⊢
      rw [← ht]
      refine ⟨h.1, ?_⟩
      have h2 := h.2
      split
      · rename_i hc
        rw [if_pos hc] at h2
        obtain ⟨r, h1, h2⟩ := h2
        exact ⟨r, hval r h1, fun d e => (hd d e).trans (h2 d e)⟩
      · rename_i hc
        rw [if_neg hc] at h2
        exact fun d e => (hd d e).trans (h2 d e)
  · right
    have hl := H.lt_of_get h5
    refine ⟨zs, d, l, h1, h2, h3, (hd d h3).trans h4, ?_, (hm l hl).trans h6, h7⟩
    rcases hg with hg | hg
    · exact hg.at h5
    · rw [h1] at hg; cases hg

theorem maskd_of {pend : List Nat} {E : Env} {t : Nat} (h : ∀ p ∈ pend, (cos p).dst ≠ some t) : maskd cos pend E t = E t := by
  unfold maskd
  rw [if_neg]
  intro hc
  rw [List.any_eq_true] at hc
  obtain ⟨p, hp, he⟩ := hc
  exact h p hp (by simpa using he)
theorem maskd_any {pend : List Nat} {E : Env} {t p : Nat} (hp : p ∈ pend) (h : (cos p).dst = some t) : maskd cos pend E t = .any := by
  unfold maskd
  rw [if_pos]
  rw [List.any_eq_true]
  exact ⟨p, hp, by simpa using h⟩

/-- All that is known in the middle of a drawn region. 'done': done ahead or done; 'pend': done ahead only. -/
structure Mid (n : Nat) (cos : Nat → AOper) (preds : Nat → List Nat) (F : Nat → Prop) (N n0 : Nat) (μ0 : Mu) (w0 : World) (done pend : List Nat) (μ : Mu) (E : Env) (H : AHeap) (a : Act) (w : World) : Prop where
  at_ : At F N n0 μ0 w0 μ (maskd cos pend E) H a w
  sub : ∀ p ∈ pend, p ∈ done
  lt : ∀ p ∈ done, p < n
  nodup : pend.Nodup
  ok : ∀ p ∈ pend, PendOk n0 E H μ (cos p)
  inj : ∀ p ∈ pend, ∀ q ∈ pend, p ≠ q → ∀ zs zs' d d' l, (cos p).op = .alloc zs → (cos q).op = .alloc zs' → (cos p).dst = some d → (cos q).dst = some d' → E d = .ptr l 0 → E d' ≠ .ptr l 0
  -- what was read when it was done is not turned
  reads : ∀ i ∈ done, ∀ t ∈ (cos i).readsG, ∀ j, j < n → (cos j).dst = some t → j ∈ preds i
  apart : ∀ i ∈ done, ∀ j ∈ done, i ≠ j → ∀ d, (cos i).dst = some d → (cos j).dst ≠ some d

theorem addOk_spec {n : Nat} {preds : Nat → List Nat} {done : List Nat} {i : Nat} (h : addOk n cos preds done i = true) :
    i < n ∧ i ∉ done ∧ (∀ t ∈ (cos i).readsG, ∀ j, j < n → (cos j).dst = some t → j ∈ preds i) ∧ ∀ d, (cos i).dst = some d → d ∉ (cos i).readsG ∧ ∀ j ∈ done, d ∉ (cos j).readsG ∧ (cos j).dst ≠ some d := by
  unfold addOk at h
  simp only [Bool.and_eq_true, decide_eq_true_eq, Bool.not_eq_true', List.all_eq_true] at h
  obtain ⟨⟨⟨h1, h2⟩, h3⟩, h4⟩ := h
  refine ⟨h1, by simpa using h2, fun t ht j hj he => ?_, fun d hd => ?_⟩
  · have := h3 t ht j (by simpa using hj)
    rw [he] at this
    simpa using this
  · rw [hd] at h4
    simp only [Bool.and_eq_true, Bool.not_eq_true', List.all_eq_true] at h4
    refine ⟨by simpa using h4.1, fun j hj => ?_⟩
    have := h4.2 j hj
    exact ⟨by simpa using this.1, by simpa using this.2⟩

/-- One more is done ahead. -/
theorem Mid.add {n : Nat} {preds : Nat → List Nat} {done pend : List Nat} {μ : Mu} {E E' : Env} {H H' : AHeap} {a : Act} {w : World} (m : Mid n cos preds F N n0 μ0 w0 done pend μ E H a w) {i : Nat} (hi : addOk n cos preds done i = true)
    (hE : ∀ t, (cos i).dst ≠ some t → E' t = E t) (hs : Sim F μ H' w) (hg : Grew H H') (hok : PendOk n0 E' H' μ (cos i))
    (hloc : ∀ zs d l, (cos i).op = .alloc zs → (cos i).dst = some d → E' d = .ptr l 0 → H.next ≤ l) : Mid n cos preds F N n0 μ0 w0 (done ++ [i]) (i :: pend) μ E' H' a w := by
  obtain ⟨h1, h2, h3, h4⟩ := addOk_spec hi
  have hip : i ∉ pend := fun h => h2 (m.sub i h)
  have stay : ∀ p ∈ done, ∀ d, (cos p).dst = some d → E' d = E d := fun p hp d hd => hE d fun he => (h4 d he).2 p hp |>.2 hd
  have rd : ∀ p ∈ done, ∀ t ∈ (cos p).readsG, E t = E' t := fun p hp t ht => (hE t fun he => (h4 t he).2 p hp |>.1 ht).symm
  refine ⟨⟨hs, ?_, m.at_.size, m.at_.defers, m.at_.keeps, m.at_.ext, Nat.le_trans m.at_.next hg.next⟩, ?_, ?_, ?_, ?_, ?_, ?_, ?_⟩
  · intro t
    by_cases ht : ∃ p ∈ i :: pend, (cos p).dst = some t
    · obtain ⟨p, hp, he⟩ := ht
      rw [maskd_any hp he]; exact .any _
    · have hno : ∀ p ∈ i :: pend, (cos p).dst ≠ some t := fun p hp he => ht ⟨p, hp, he⟩
      rw [maskd_of hno, hE t (hno i (by simp))]
      have := m.at_.env t
      rwa [maskd_of fun p hp => hno p (by simp [hp])] at this
  · intro p hp
    rcases List.mem_cons.1 hp with rfl | hp
    · simp
    · exact List.mem_append_left _ (m.sub p hp)
  · intro p hp
    rcases List.mem_append.1 hp with hp | hp
    · exact m.lt p hp
    · rw [List.mem_singleton] at hp; subst hp; exact h1
  · exact List.nodup_cons.2 ⟨hip, m.nodup⟩
  · intro p hp
    rcases List.mem_cons.1 hp with rfl | hp
    · exact hok
    · exact (m.ok p hp).stable (rd p (m.sub p hp)) (stay p (m.sub p hp)) (.inl hg) (fun _ _ => rfl)
  · have old : ∀ p ∈ pend, ∀ zs d l, (cos p).op = .alloc zs → (cos p).dst = some d → E' d = .ptr l 0 → l < H.next := by
      intro p hp zs d l e1 e2 e3
      rcases m.ok p hp with ⟨hq, _⟩ | ⟨zs', d', l', k1, k2, k3, k4, k5, _⟩
      · rw [e1] at hq; cases hq
      · rw [e2] at k3
        cases k3
        rw [stay p (m.sub p hp) d e2, k4] at e3
        cases e3
        exact H.lt_of_get k5
    intro p hp q hq hne zs zs' d d' l e1 e2 e3 e4 e5 e6
    rcases List.mem_cons.1 hp with ep | hp' <;> rcases List.mem_cons.1 hq with eq | hq'
    · exact hne (ep.trans eq.symm)
    · subst ep
      have k1 := hloc zs d l e1 e3 e5
      have k2 := old q hq' zs' d' l e2 e4 e6
      omega
    · subst eq
      have k1 := hloc zs' d' l e2 e4 e6
      have k2 := old p hp' zs d l e1 e3 e5
      omega
    · rw [stay p (m.sub p hp') d e3] at e5
      rw [stay q (m.sub q hq') d' e4] at e6
      exact m.inj p hp' q hq' hne zs zs' d d' l e1 e2 e3 e4 e5 e6
  · intro j hj
    rcases List.mem_append.1 hj with hj | hj
    · exact m.reads j hj
    · rw [List.mem_singleton] at hj; subst hj; exact h3
  · intro p hp q hq hne d e1 e2
    rcases List.mem_append.1 hp with hp' | hp' <;> rcases List.mem_append.1 hq with hq' | hq'
    · exact m.apart p hp' q hq' hne d e1 e2
    · rw [List.mem_singleton] at hq'; rw [hq'] at e2; exact ((h4 d e2).2 p hp').2 e1
    · rw [List.mem_singleton] at hp'; rw [hp'] at e1; exact ((h4 d e1).2 q hq').2 e2
    · rw [List.mem_singleton] at hp' hq'; exact hne (hp'.trans hq'.symm)

/-- What can be done ahead is. -/
theorem Mid.run {n : Nat} {preds : Nat → List Nat} {a : Act} {w : World} {μ : Mu} : ∀ {qs done pend : List Nat} {E : Env} {H : AHeap} {K : Env → AHeap → Prop}, Mid n cos preds F N n0 μ0 w0 done pend μ E H a w → okQ n cos preds done qs = true → arun P (qs.map cos) E H K →
    ∃ pend' E' H', K E' H' ∧ Mid n cos preds F N n0 μ0 w0 (done ++ qs) pend' μ E' H' a w ∧ ∀ p, p ∈ pend' ↔ p ∈ pend ∨ p ∈ qs
  | [], done, pend, E, H, K, m, _, h => ⟨pend, E, H, h, by simpa using m, by simp⟩
  | i :: qs, done, pend, E, H, K, m, hq, h => by
    simp only [okQ, Bool.and_eq_true] at hq
    obtain ⟨⟨⟨hadd, hah⟩, hpre⟩, hrest⟩ := hq
    obtain ⟨k1, k2, k3, k4⟩ := addOk_spec hadd
    simp only [List.map_cons, arun] at h
    have fin : ∀ {E' : Env} {H' : AHeap}, Mid n cos preds F N n0 μ0 w0 (done ++ [i]) (i :: pend) μ E' H' a w → arun P (qs.map cos) E' H' K →
        ∃ pend' E' H', K E' H' ∧ Mid n cos preds F N n0 μ0 w0 (done ++ i :: qs) pend' μ E' H' a w ∧ ∀ p, p ∈ pend' ↔ p ∈ pend ∨ p ∈ i :: qs := by
      intro E' H' m' h'
      obtain ⟨pend', E2, H2, q1, q2, q3⟩ := Mid.run m' hrest h'
      refine ⟨pend', E2, H2, q1, by simpa using q2, fun p => ?_⟩
      rw [q3 p]
      simp only [List.mem_cons]
      exact ⟨fun h => by rcases h with (h | h) | h <;> simp [h], fun h => by rcases h with h | h | h <;> simp [h]⟩
    have self : ∀ d, (cos i).dst = some d → d ∉ (cos i).op.reads := fun d hd hc => (k4 d hd).1 (by unfold AOper.readsG; exact List.mem_append_left _ hc)
    have putE : ∀ (r : AV) t, (cos i).dst ≠ some t → (E.put (cos i).dst r) t = E t := by
      intro r t ht
      unfold Env.put
      rw [if_neg ht]
    have putD : ∀ (r : AV) d, (cos i).dst = some d → (E.put (cos i).dst r) d = r := by
      intro r d hd
      unfold Env.put
      rw [if_pos hd]
    have rdE : ∀ (r : AV), ∀ t ∈ (cos i).readsG, E t = (E.put (cos i).dst r) t := by
      intro r t ht
      rw [putE r t fun he => (k4 t he).1 ht]
    have opE : ∀ (r : AV), ∀ t ∈ (cos i).op.reads, E t = (E.put (cos i).dst r) t := fun r t ht => rdE r t (by unfold AOper.readsG; exact List.mem_append_left _ ht)
    cases hgd : (cos i).guard with
    | none =>
      rw [hgd] at h
      simp only at h
      by_cases hqu : (cos i).op.quiet = true
      · have : ∃ r, aval E H.get (cos i).op = some r ∧ arun P (qs.map cos) (E.put (cos i).dst r) H K := by
          revert h hqu
          cases (cos i).op <;> intro h hqu <;> first | (cases hqu; done) | skip
          all_goals
            simp only [aeff] at h
            split at h
            · rename_i r hr; exact ⟨r, hr, h⟩
            · exact h.elim
        obtain ⟨r, hr, h⟩ := this
        refine fin (m.add hadd (putE r) m.at_.sim (Grew.refl _) (.inl ⟨hqu, ?_⟩) ?_) h
        · rw [hgd]
          exact ⟨r, by rw [← aval_agree (opE r)]; exact hr, putD r⟩
        · intro zs d l e1
          rw [e1] at hqu; cases hqu
      · simp only [AOper.ahead, hqu, Bool.false_or] at hah
        split at hah
        · rename_i zs hop
          simp only [Bool.and_eq_true, Option.isSome_iff_exists] at hah
          obtain ⟨_, d, hd⟩ := hah
          rw [hop] at h
          simp only [aeff] at h
          refine fin (m.add hadd (putE _) (m.at_.sim.ghost _) ((Grew.refl _).new _) (.inr ⟨zs, d, H.next, hop, hgd, hd, putD _ d hd, by rw [AHeap.new_get, if_pos rfl], ?_, m.at_.next⟩) ?_) h
          · cases hm : μ H.next with
            | none => rfl
            | some li => have := (m.at_.sim.dom _ _ hm).1; omega
          · intro zs' d' l e1 e2 e3
            rw [putD _ d' e2] at e3
            cases e3
            exact Nat.le_refl _
        · cases hah
    | some tw =>
      obtain ⟨t, want⟩ := tw
      rw [hgd] at h
      simp only at h
      obtain ⟨hdet, h⟩ := h
      have hqu : (cos i).op.quiet = true := by
        simp only [AOper.ahead, hgd] at hah
        cases hq : (cos i).op.quiet with
        | true => rfl
        | false => rw [hq] at hah; split at hah <;> simp at hah
      have ht : t ∈ (cos i).readsG := by unfold AOper.readsG; rw [hgd]; simp
      have : ∃ r, ((E t).yb = some want → ∃ r', aval E H.get (cos i).op = some r' ∧ r = r') ∧ (¬ (E t).yb = some want → r = .undef) ∧ arun P (qs.map cos) (E.put (cos i).dst r) H K := by
        revert h hqu
        unfold gstep
        cases (cos i).op <;> intro h hqu <;> first | (cases hqu; done) | skip
        all_goals
          simp only [] at h
          split at h
          · rename_i r hr
            exact ⟨_, fun hc => ⟨r, hr, by rw [if_pos hc]⟩, fun hc => by rw [if_neg hc], h⟩
          · exact ⟨.undef, fun hc => absurd hc h.1, fun _ => rfl, h.2⟩
      obtain ⟨r, h1, h2, h⟩ := this
      refine fin (m.add hadd (putE r) m.at_.sim (Grew.refl _) (.inl ⟨hqu, ?_⟩) ?_) h
      · rw [hgd]
        simp only []
        rw [← rdE r t ht]
        refine ⟨hdet, ?_⟩
        split
        · rename_i hc
          obtain ⟨r', hr', rfl⟩ := h1 hc
          exact ⟨r, by rw [← aval_agree (opE r)]; exact hr', putD r⟩
        · rename_i hc
          intro d hd
          rw [putD r d hd]
          exact h2 hc
      · intro zs d l e1
        rw [e1] at hqu; cases hqu
end
end Go.Ab
