/- Drawn regions are sound. -/
import Derived.Test.YtgjhjemmddojfaaAb14c
set_option linter.unusedVariables false
set_option linter.unusedSimpArgs false
namespace Go.Ab

section
variable {P : Program} {N : Nat} {cos : Nat → AOper} {F : Nat → Prop} {n0 : Nat} {μ0 : Mu} {w0 : World} {ops : Array Oper}

theorem okQ_fresh {n : Nat} {preds : Nat → List Nat} : ∀ {qs done : List Nat}, okQ n cos preds done qs = true → ∀ i ∈ qs, i ∉ done ∧ i < n
  | [], _, _, i, hi => by cases hi
  | q :: qs, done, h, i, hi => by
    simp only [okQ, Bool.and_eq_true] at h
    obtain ⟨⟨⟨hadd, _⟩, _⟩, hrest⟩ := h
    obtain ⟨k1, k2, _, _⟩ := addOk_spec hadd
    rcases List.mem_cons.1 hi with e | hi
    · rw [e]; exact ⟨k2, k1⟩
    · have := okQ_fresh hrest i hi
      exact ⟨fun h => this.1 (List.mem_append_left _ h), this.2⟩

theorem kid_of {n : Nat} {preds : Nat → List Nat} {done : List Nat} {E : Env} {H : AHeap} {k : Env → AHeap → Prop} {i : Nat} : ∀ {kids : SKids}, okK n cos preds done kids = true → akids P (fillK cos kids) E H k → i ∈ kids.ids →
    ∃ free t, addOk n cos preds done i = true ∧ (free = true → ∀ j ∈ done, j ∈ preds i ∨ (cos j).op.free = true) ∧ okT n cos preds (done ++ [i]) t = true ∧ arun P [cos i] E H fun E' H' => (free = true ∨ Grew H H') ∧ amix P (fillT cos t) E' H' k
  | .nil, _, _, hi => by cases hi
  | .cons q free t rest, h, ha, hi => by
    simp only [okK, Bool.and_eq_true] at h
    obtain ⟨⟨⟨h1, h2⟩, h3⟩, h4⟩ := h
    simp only [fillK, akids] at ha
    rcases List.mem_cons.1 hi with e | hi
    · subst e
      refine ⟨free, t, h1, fun hf j hj => ?_, h3, ha.1⟩
      rw [hf] at h2
      simp only [Bool.not_true, Bool.false_or, List.all_eq_true] at h2
      simpa using h2 j hj
    · exact kid_of h4 ha.2 hi

theorem count_set_true {listed : Array Bool} {i : Nat} (hi : i < listed.size) (hf : listed.getD i true = false) : (listed.setIfInBounds i true).toList.count false + 1 = listed.toList.count false := by
  rw [Array.toList_setIfInBounds, List.count_set (by simpa using hi)]
  have e : listed.toList[i]'(by simpa using hi) = false := by
    rw [Array.getD_eq_getD_getElem?, Array.getElem?_eq_getElem hi] at hf
    simpa using hf
  rw [e]
  have hpos : 0 < listed.toList.count false := List.count_pos_iff.2 (by rw [← e]; exact List.getElem_mem _)
  rw [if_pos (by rfl), if_neg (by decide)]
  omega

theorem mix_any {n : Nat} (hn : ops.size = n) (hco : ∀ i o, ops[i]? = some o → cOper P N ops o = some (cos i)) (hlow : ∀ i, i < n → ∀ j ∈ predsOf ops i, j < i) {k : Env → AHeap → Prop} {Q : Exit → Act → World → Prop} (hQ : ∀ a w, Post F N n0 μ0 w0 k a w → Q .normal a w) :
    ∀ (fuel : Nat) (listed : Array Bool) (kids : SKids) (done pend : List Nat) (μ : Mu) (E : Env) (H : AHeap) (a : Act) (w : World), Mid n cos (predsOf ops) F N n0 μ0 w0 done pend μ E H a w → listed.size = n →
      (∀ i, i < n → (listed.getD i true = true ↔ i ∈ done ∧ i ∉ pend)) → listed.toList.count false ≤ fuel → coverK n (predsOf ops) done kids = true → okK n cos (predsOf ops) done kids = true →
      ((fillK cos kids).isNil = true → k E H) → akids P (fillK cos kids) E H k → wpAny P .any ops Q fuel listed a w := by
  have stop : ∀ (listed : Array Bool) (kids : SKids) (done pend : List Nat) (μ : Mu) (E : Env) (H : AHeap) (a : Act) (w : World), Mid n cos (predsOf ops) F N n0 μ0 w0 done pend μ E H a w → listed.size = n →
      (∀ i, i < n → (listed.getD i true = true ↔ i ∈ done ∧ i ∉ pend)) → okK n cos (predsOf ops) done kids = true → ((fillK cos kids).isNil = true → k E H) → Region.ready .any ops listed = [] → Q .normal a w := by
    intro listed kids done pend μ E H a w m hsz hl hok hk hr
    have all : ∀ i, i < n → listed.getD i true = true := by
      intro i
      induction i using Nat.strongRecOn with
      | _ i ih =>
        intro hi
        cases hc : listed.getD i true with
        | true => rfl
        | false =>
          exfalso
          have hio : i < ops.size := hn ▸ hi
          have : i ∈ Region.ready .any ops listed := by
            rw [mem_ready]
            refine ⟨hc, ops[i], Array.getElem?_eq_getElem hio, fun e he hb => ?_⟩
            have hj : e.on ∈ predsOf ops i := by
              unfold predsOf
              rw [Array.getElem?_eq_getElem hio]
              simp only [List.mem_filterMap]
              exact ⟨e, by simpa using he, by rw [if_pos hb]⟩
            have hlt := hlow i hi _ hj
            have := ih e.on hlt (by omega)
            rw [Array.getD_eq_getD_getElem?, Array.getElem?_eq_getElem (by omega)] at this ⊢
            simpa using this
          rw [hr] at this
          cases this
    have hpend : pend = [] := by
      cases pend with
      | nil => rfl
      | cons p ps =>
        have hp : p ∈ p :: ps := by simp
        exact absurd hp ((hl p (m.lt p (m.sub p hp))).1 (all p (m.lt p (m.sub p hp)))).2
    subst hpend
    have hnil : (fillK cos kids).isNil = true := by
      cases kids with
      | nil => rfl
      | cons i free t rest =>
        simp only [okK, Bool.and_eq_true] at hok
        obtain ⟨k1, k2, _, _⟩ := addOk_spec hok.1.1.1
        exact absurd ((hl i k1).1 (all i k1)).1 k2
    refine hQ a w ⟨μ, E, H, hk hnil, ?_⟩
    have e : maskd cos [] E = E := by funext t; exact maskd_of fun p hp => by cases hp
    have := m.at_
    rwa [e] at this
  intro fuel
  induction fuel with
  | zero =>
    intro listed kids done pend μ E H a w m hsz hl hc hcov hok hk ha
    have hr : Region.ready .any ops listed = [] := by
      cases hr : Region.ready .any ops listed with
      | nil => rfl
      | cons i is =>
        exfalso
        have hi : i ∈ Region.ready .any ops listed := by rw [hr]; simp
        rw [mem_ready] at hi
        obtain ⟨h1, o, ho, _⟩ := hi
        have hio : i < ops.size := (Array.getElem?_eq_some_iff.1 ho).1
        have : i < listed.size := by omega
        have e : listed[i] = false := by
          rw [Array.getD_eq_getD_getElem?, Array.getElem?_eq_getElem this] at h1
          simpa using h1
        have : 0 < listed.toList.count false := List.count_pos_iff.2 (by rw [← e]; exact Array.getElem_mem_toList this)
        omega
    exact ⟨hr, stop listed kids done pend μ E H a w m hsz hl hok hk hr⟩
  | succ fuel ih =>
    intro listed kids done pend μ E H a w m hsz hl hc hcov hok hk ha
    refine ⟨fun hr => stop listed kids done pend μ E H a w m hsz hl hok hk hr, fun i hi => ?_⟩
    rw [mem_ready] at hi
    obtain ⟨h1, o, ho, hpre⟩ := hi
    have hio : i < ops.size := (Array.getElem?_eq_some_iff.1 ho).1
    have hin : i < n := hn ▸ hio
    have hpre' : ∀ j ∈ predsOf ops i, j ∈ done ∧ j ∉ pend := by
      intro j hj
      unfold predsOf at hj
      rw [ho] at hj
      simp only [List.mem_filterMap] at hj
      obtain ⟨e, he, hb⟩ := hj
      split at hb
      · rename_i hbb
        cases hb
        have hx := hpre e (by simpa using he) hbb
        have hlt : e.on < listed.size := by
          rcases Nat.lt_or_ge e.on listed.size with h | h
          · exact h
          · rw [Array.getD_eq_getD_getElem?, Array.getElem?_eq_none h] at hx; cases hx
        refine (hl e.on (by omega)).1 ?_
        rw [Array.getD_eq_getD_getElem?, Array.getElem?_eq_getElem hlt] at hx ⊢
        simpa using hx
      · cases hb
    have hset : ∀ j, j < n → ((listed.setIfInBounds i true).getD j true = true ↔ j = i ∨ listed.getD j true = true) := by
      intro j hj
      rw [Array.getD_eq_getD_getElem?, Array.getElem?_setIfInBounds]
      by_cases hji : i = j
      · subst hji; simp [hsz, hin]
      · rw [if_neg hji, ← Array.getD_eq_getD_getElem?]
        constructor
        · exact .inr
        · rintro (h | h)
          · exact absurd h.symm hji
          · exact h
    have hcnt : (listed.setIfInBounds i true).toList.count false ≤ fuel := by
      have := count_set_true (by omega) h1
      omega
    have hnl : ¬ (i ∈ done ∧ i ∉ pend) := fun h => by rw [(hl i hin).2 h] at h1; cases h1
    by_cases hd : i ∈ done
    · have hp : i ∈ pend := Classical.byContradiction fun h => hnl ⟨hd, h⟩
      refine step_pend m hp ho (hco i o ho) (fun t ht p hpp he => (hpre' p (m.reads i hd t ht p (m.lt p (m.sub p hpp)) he)).2 hpp) fun μ' a' w' m' => ?_
      refine ih _ kids done (pend.erase i) μ' E H a' w' m' (by simpa using hsz) (fun j hj => ?_) hcnt hcov hok hk ha
      rw [hset j hj, hl j hj, m.nodup.mem_erase_iff]
      constructor
      · rintro (h | h)
        · subst h; exact ⟨hd, fun h => h.1 rfl⟩
        · exact ⟨h.1, fun h' => h.2 h'.2⟩
      · rintro ⟨h, h'⟩
        by_cases hji : j = i
        · exact .inl hji
        · exact .inr ⟨h, fun hx => h' ⟨hji, hx⟩⟩
    · have hkid : i ∈ kids.ids := by
        unfold coverK at hcov
        simp only [Bool.and_eq_true, List.all_eq_true] at hcov
        have := hcov.1 i (by simpa using hin)
        simp only [Bool.or_eq_true, Bool.not_eq_true'] at this
        rcases this with (h | h) | h
        · exact absurd (by simpa using h) hd
        · exfalso
          rw [← Bool.not_eq_true, List.all_eq_true] at h
          exact h fun j hj => by simpa using (hpre' j hj).1
        · simpa using h
      obtain ⟨free, t, q1, q2, q3, q4⟩ := kid_of hok ha hkid
      refine step_kid m q1 ho (hco i o ho) (fun j hj => (hpre' j hj).2) q2 q4 fun μ' E' H' a' w' hmix m' => ?_
      obtain ⟨qs, kids'⟩ := t
      simp only [fillT, amix] at hmix
      simp only [okT, Bool.and_eq_true] at q3
      obtain ⟨⟨r1, r2⟩, r3⟩ := q3
      obtain ⟨pend', E2, H2, ⟨s1, s2⟩, s3, s4⟩ := m'.run r1 hmix
      refine ih _ kids' _ pend' μ' E2 H2 a' w' s3 (by simpa using hsz) (fun j hj => ?_) hcnt r2 r3 s1 s2
      rw [hset j hj, hl j hj, s4 j]
      have fr := fun h => okQ_fresh r1 j h
      have hip : i ∉ pend := fun h => hd (m.sub i h)
      simp only [List.mem_append, List.mem_singleton] at fr ⊢
      constructor
      · rintro (h | ⟨h, h'⟩)
        · subst h
          exact ⟨.inl (.inr rfl), fun h => by
            rcases h with h | h
            · exact hip h
            · exact (fr h).1 (.inr rfl)⟩
        · exact ⟨.inl (.inl h), fun hx => by
            rcases hx with hx | hx
            · exact h' hx
            · exact (fr hx).1 (.inl h)⟩
      · rintro ⟨(h | h) | h, h'⟩
        · exact .inr ⟨h, fun hx => h' (.inl hx)⟩
        · exact .inl h
        · exact absurd (.inr h) h'

/-- A region whose order is drawn: a plan that fits is enough. -/
theorem mix_sound {n : Nat} (hn : ops.size = n) (hfol : P.follows .mixedOrders = true) (hco : ∀ i o, ops[i]? = some o → cOper P N ops o = some (cos i)) (hlow : ∀ i, i < n → ∀ j ∈ predsOf ops i, j < i) {t : STree} (ht : okT n cos (predsOf ops) [] t = true)
    {k : Env → AHeap → Prop} {Q : Exit → Act → World → Prop} (hQ : ∀ a w, Post F N n0 μ0 w0 k a w → Q .normal a w) {μ : Mu} {E : Env} {H : AHeap} {a : Act} {w : World} (h : At F N n0 μ0 w0 μ E H a w) (hm : amix P (fillT cos t) E H k) {id : Nat} :
    (Code.region id ops true).wp P Q a w := by
  refine wp_region_any hfol ?_
  obtain ⟨qs, kids⟩ := t
  simp only [fillT, amix] at hm
  simp only [okT, Bool.and_eq_true, List.nil_append] at ht
  obtain ⟨⟨r1, r2⟩, r3⟩ := ht
  have m0 : Mid n cos (predsOf ops) F N n0 μ0 w0 [] [] μ E H a { w with drawn := w.drawn + 1 } := by
    have e : maskd cos [] E = E := by funext t; exact maskd_of fun p hp => by cases hp
    refine ⟨by rw [e]; exact ⟨h.sim.drew _, h.env, h.size, h.defers, h.keeps.trans (Keeps.drew w _), h.ext, h.next⟩, fun p hp => (by cases hp), fun p hp => (by cases hp), List.nodup_nil, fun p hp => (by cases hp), fun p hp => (by cases hp), fun p hp => (by cases hp), fun p hp => (by cases hp)⟩
  obtain ⟨pend', E2, H2, ⟨s1, s2⟩, s3, s4⟩ := m0.run r1 hm
  simp only [List.nil_append] at s3
  refine mix_any hn hco hlow hQ ops.size _ kids qs pend' μ E2 H2 a _ s3 (by simpa using hn) (fun j hj => ?_) ?_ r2 r3 s1 s2
  · rw [Array.getD_eq_getD_getElem?, Array.getElem?_replicate, if_pos (by omega), s4 j]
    simp
  · simp [hn]
end
end Go.Ab
