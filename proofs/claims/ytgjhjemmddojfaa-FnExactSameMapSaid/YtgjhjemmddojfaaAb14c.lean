/- Drawn regions are sound: the orders. -/
import Derived.Test.YtgjhjemmddojfaaAb14b
set_option linter.unusedVariables false
set_option linter.unusedSimpArgs false
namespace Go.Ab

section
variable {P : Program} {N : Nat} {cos : Nat → AOper} {F : Nat → Prop} {n0 : Nat} {μ0 : Mu} {w0 : World} {ops : Array Oper}

def predsOf (ops : Array Oper) (i : Nat) : List Nat := match ops[i]? with
  | some o => o.after.toList.filterMap fun e => if Region.binds .any e then some e.on else none
  | none => []

theorem coper_inv {o : Oper} {c : AOper} (h : cOper P N ops o = some c) : ∃ ao, comp P o.op = some ao ∧ c.dst = o.dst ∧ c.op = ao ∧ cDst N o.dst = true ∧
    (o.guard = none ∧ c.guard = none ∨ ∃ j want g t, o.guard = some (j, want) ∧ ops[j]? = some g ∧ g.dst = some t ∧ t < N ∧ c.guard = some (t, want)) := by
  unfold cOper at h
  cases hg : o.guard with
  | none =>
    rw [hg] at h
    simp only at h
    split at h
    · rename_i hd
      simp only [Option.bind_eq_bind, Option.bind_eq_some_iff, Option.some.injEq] at h
      obtain ⟨ao, hc, rfl⟩ := h
      exact ⟨ao, hc, rfl, rfl, hd, .inl ⟨rfl, rfl⟩⟩
    · cases h
  | some jw =>
    obtain ⟨j, want⟩ := jw
    rw [hg] at h
    simp only [Option.bind_eq_bind, Option.bind_eq_some_iff] at h
    obtain ⟨g, hj, t, hgd, h⟩ := h
    split at h
    · rename_i hd
      simp only [Bool.and_eq_true, decide_eq_true_eq] at hd
      simp only [Option.bind_eq_some_iff, Option.some.injEq] at h
      obtain ⟨ao, hc, rfl⟩ := h
      exact ⟨ao, hc, rfl, rfl, hd.1, .inr ⟨j, want, g, t, rfl, hj, hgd, hd.2, rfl⟩⟩
    · cases h

theorem mask_put {pend : List Nat} {E : Env} {i : Nat} {r : AV} (hnd : pend.Nodup) (hok : ∀ d, (cos i).dst = some d → E d = r) (hap : ∀ p ∈ pend, p ≠ i → ∀ d, (cos i).dst = some d → (cos p).dst ≠ some d) :
    (maskd cos pend E).put (cos i).dst r = maskd cos (pend.erase i) E := by
  funext t
  have hmem : ∀ p, p ∈ pend.erase i ↔ p ≠ i ∧ p ∈ pend := fun p => hnd.mem_erase_iff
  by_cases ht : (cos i).dst = some t
  · have e1 : (maskd cos pend E).put (cos i).dst r t = r := by unfold Env.put; rw [if_pos ht]
    rw [e1, maskd_of fun p hp => hap p ((hmem p).1 hp).2 ((hmem p).1 hp).1 t ht, hok t ht]
  · have e1 : (maskd cos pend E).put (cos i).dst r t = maskd cos pend E t := by unfold Env.put; rw [if_neg ht]
    rw [e1]
    by_cases hx : ∃ p ∈ pend, (cos p).dst = some t
    · obtain ⟨p, hp, he⟩ := hx
      have hpi : p ≠ i := fun h => ht (h ▸ he)
      rw [maskd_any hp he, maskd_any ((hmem p).2 ⟨hpi, hp⟩) he]
    · have hno : ∀ p ∈ pend, (cos p).dst ≠ some t := fun p hp he => hx ⟨p, hp, he⟩
      rw [maskd_of hno, maskd_of fun p hp => hno p ((hmem p).1 hp).2]

theorem Mid.drop {n : Nat} {preds : Nat → List Nat} {done pend : List Nat} {μ μ' : Mu} {E : Env} {H : AHeap} {a a' : Act} {w w' : World} (m : Mid n cos preds F N n0 μ0 w0 done pend μ E H a w) {i : Nat} {r : AV}
    (hi : i ∈ pend) (hok : ∀ d, (cos i).dst = some d → E d = r) (hat : At F N n0 μ0 w0 μ' ((maskd cos pend E).put (cos i).dst r) H a' w')
    (hm : ∀ p ∈ pend, p ≠ i → ∀ zs d l, (cos p).op = .alloc zs → (cos p).dst = some d → E d = .ptr l 0 → μ' l = μ l) : Mid n cos preds F N n0 μ0 w0 done (pend.erase i) μ' E H a' w' := by
  have hmem : ∀ p, p ∈ pend.erase i ↔ p ≠ i ∧ p ∈ pend := fun p => m.nodup.mem_erase_iff
  rw [mask_put m.nodup hok (fun p hp hne d hd he => m.apart i (m.sub i hi) p (m.sub p hp) (Ne.symm hne) d hd he)] at hat
  refine ⟨hat, fun p hp => m.sub p ((hmem p).1 hp).2, m.lt, m.nodup.erase i, ?_, ?_, m.reads, m.apart⟩
  · intro p hp
    obtain ⟨hne, hp⟩ := (hmem p).1 hp
    rcases m.ok p hp with h | ⟨zs, d, l, h1, h2, h3, h4, h5, h6, h7⟩
    · exact .inl h
    · exact .inr ⟨zs, d, l, h1, h2, h3, h4, h5, (hm p hp hne zs d l h1 h3 h4).trans h6, h7⟩
  · intro p hp q hq
    exact m.inj p ((hmem p).1 hp).2 q ((hmem q).1 hq).2

/-- An operation that has been done ahead is done. -/
theorem step_pend {n : Nat} {preds : Nat → List Nat} {done pend : List Nat} {μ : Mu} {E : Env} {H : AHeap} {a : Act} {w : World} (m : Mid n cos preds F N n0 μ0 w0 done pend μ E H a w) {i : Nat} {o : Oper}
    (hi : i ∈ pend) (ho : ops[i]? = some o) (hco : cOper P N ops o = some (cos i)) (hrd : ∀ t ∈ (cos i).readsG, ∀ p ∈ pend, (cos p).dst ≠ some t) {Q : Exit → Act → World → Prop} {K : Act → World → Prop}
    (hK : ∀ μ' a' w', Mid n cos preds F N n0 μ0 w0 done (pend.erase i) μ' E H a' w' → K a' w') : wpOp P ops Q i K a w := by
  obtain ⟨ao, hc, hdst, hop, hcd, hgd⟩ := coper_inv hco
  have unm : ∀ t ∈ (cos i).readsG, maskd cos pend E t = E t := fun t ht => maskd_of (hrd t ht)
  have unop : ∀ t ∈ (cos i).op.reads, E t = maskd cos pend E t := fun t ht => (unm t (by unfold AOper.readsG; exact List.mem_append_left _ ht)).symm
  unfold wpOp
  rw [ho]
  simp only []
  rcases m.ok i hi with ⟨hqu, hval⟩ | ⟨zs, d, l, h1, h2, h3, h4, h5, h6, h7⟩
  · rcases hgd with ⟨g1, g2⟩ | ⟨j, want, g, t, g1, g2, g3, g4, g5⟩
    · rw [g2] at hval
      obtain ⟨r, hr, hE⟩ := hval
      rw [aval_agree unop, hop] at hr
      have hw : Region.wanted o (yielded ops a.tmps) = true := by unfold Region.wanted; rw [g1]
      rw [if_pos hw]
      left
      obtain ⟨v, w', q1, q2, q3⟩ := aval_sound hc hr m.at_.sim m.at_.env
      refine wp_of_out (F := F) (μ := μ) (H := H) (k := fun r' H' => r' = r ∧ H' = H) (by rw [q1]; exact Out.drew ⟨rfl, rfl⟩ m.at_.sim q3 q2) ?_
      rintro v' w'' ⟨μ', r', H', ⟨rfl, rfl⟩, k1, k2, k3, k4, k5⟩
      refine hK μ' _ _ (m.drop hi hE (by rw [hdst]; exact m.at_.step hcd k1 k2 k3 k4 k5) ?_)
      intro p hp _ zs d l e1 e2 e3
      rcases m.ok p hp with ⟨hq', _⟩ | ⟨zs', d', l', p1, p2, p3, p4, p5, p6, p7⟩
      · rw [e1] at hq'; cases hq'
      · rw [e2] at p3; cases p3; rw [p4] at e3; cases e3; exact k2 _ (H'.lt_of_get p5)
    · rw [g5] at hval
      simp only [] at hval
      have ht : t ∈ (cos i).readsG := by unfold AOper.readsG; rw [g5]; simp
      rw [← unm t ht] at hval
      obtain ⟨hdet, hval⟩ := hval
      refine guard_sound (k := fun r => ∀ d, (cos i).dst = some d → E d = r) g1 g2 g3 g4 hcd hc m.at_ hdet ?_ ?_
      · rw [← hop]
        have : ∀ op : AOp, op.quiet = true → ((maskd cos pend E t).yb = some want → ∃ r, aval (maskd cos pend E) H.get op = some r ∧ ∀ d, (cos i).dst = some d → E d = r) → (¬ (maskd cos pend E t).yb = some want → ∀ d, (cos i).dst = some d → E d = .undef) →
            gstep P (maskd cos pend E) H ((maskd cos pend E t).yb = some want) op fun r => ∀ d, (cos i).dst = some d → E d = r := by
          intro op hq' v1 v2
          unfold gstep
          cases op <;> first | (cases hq'; done) | skip
          all_goals
            simp only []
            split
            · rename_i r hr
              split
              · rename_i hc'
                obtain ⟨r', h1, h2⟩ := v1 hc'
                rw [hr] at h1
                cases h1
                exact h2
              · rename_i hc'; exact v2 hc'
            · rename_i hr
              by_cases hc' : (maskd cos pend E t).yb = some want
              · obtain ⟨r', h1, _⟩ := v1 hc'; rw [hr] at h1; cases h1
              · exact ⟨hc', v2 hc'⟩
        refine this _ hqu ?_ ?_
        · intro hc'
          rw [if_pos hc'] at hval
          obtain ⟨r, hr, hE⟩ := hval
          exact ⟨r, by rw [← aval_agree unop]; exact hr, hE⟩
        · intro hc'
          rw [if_neg hc'] at hval
          exact hval
      · intro r μ' a' w' hE _ hat k2
        refine hK μ' a' w' (m.drop hi hE (by rw [hdst]; exact hat) ?_)
        intro p hp _ zs d l e1 e2 e3
        rcases m.ok p hp with ⟨hq', _⟩ | ⟨zs', d', l', p1, p2, p3, p4, p5, p6, p7⟩
        · rw [e1] at hq'; cases hq'
        · rw [e2] at p3; cases p3; rw [p4] at e3; cases e3; exact k2 _ (H.lt_of_get p5)
  · -- an alloc
    have g1 : o.guard = none := by
      rcases hgd with ⟨g1, _⟩ | ⟨_, _, _, _, _, _, _, _, g5⟩
      · exact g1
      · rw [h2] at g5; cases g5
    have hw : Region.wanted o (yielded ops a.tmps) = true := by unfold Region.wanted; rw [g1]
    rw [if_pos hw]
    left
    rw [← hop, h1] at hc
    obtain ⟨t, hot, hz⟩ := comp_alloc hc
    obtain ⟨z, hz1, hz2⟩ := zero_run (μ := μ) (w := w) hz
    have hrun : (execOp a.eval o).run P w = .ok (.value (.pointer (some ⟨w.heap.size, 0, none⟩))) { w with heap := w.heap.push (.cells z.cells t) } := by
      obtain ⟨dst, op, type, pos, after, guard⟩ := o
      simp only at hot
      subst hot
      simp only [execOp, Instr.alloc]
      rw [bind_ok (s := zeroValue t >>= _) (a := .pointer (some ⟨w.heap.size, 0, none⟩)) (w' := { w with heap := w.heap.push (.cells z.cells t) })]
      · rfl
      · rw [bind_ok hz1]; rfl
    obtain ⟨f1, f2⟩ := RL.full hz2
    have hreal := m.at_.sim.realise (e := t) h5 h6 f1 f2 w.drawn
    unfold Oper.wp
    rw [hrun]
    have hplus : ∀ l', l' ≠ l → (μ.plus l ⟨w.heap.size, 0, z.cells.size⟩) l' = μ l' := fun l' h => by unfold Mu.plus; rw [if_neg h]
    have hle : μ.le (μ.plus l ⟨w.heap.size, 0, z.cells.size⟩) := fun l' li' h => by rw [hplus l' (fun e => by subst e; rw [h6] at h; cases h)]; exact h
    show K (a.put o.dst _) _
    refine hK (μ.plus l ⟨w.heap.size, 0, z.cells.size⟩) _ _ (m.drop (r := .ptr l 0) hi (fun d' hd' => by rw [h3] at hd'; cases hd'; exact h4) ⟨hreal, ?_, by rw [put_size]; exact m.at_.size, by rw [put_defers]; exact m.at_.defers, m.at_.keeps.trans (keeps_push m.at_.sim.fresh _ _), ?_, m.at_.next⟩ ?_)
    · rw [hdst]
      have he' : RE (μ.plus l ⟨w.heap.size, 0, z.cells.size⟩) (maskd cos pend E) a := fun t => (m.at_.env t).mono hle
      refine he'.put (by rw [m.at_.size]; exact hcd) (.ptr (li := ⟨w.heap.size, 0, z.cells.size⟩) ?_ rfl)
      unfold Mu.plus; rw [if_pos rfl]
    · exact Mu.ext_trans m.at_.ext (fun l' hl' => hplus l' (by omega)) (Nat.le_refl _)
    · intro p hp hne zs' d' l' e1 e2 e3
      refine hplus l' ?_
      intro he
      rw [he] at e3
      exact m.inj p hp i hi hne zs' zs d' d l e1 h1 e2 h3 e3 h4

/-- An operation that is not done ahead. -/
theorem step_kid {n : Nat} {preds : Nat → List Nat} {done pend : List Nat} {μ : Mu} {E : Env} {H : AHeap} {a : Act} {w : World} (m : Mid n cos preds F N n0 μ0 w0 done pend μ E H a w) {i : Nat} {o : Oper} {free : Bool}
    (hadd : addOk n cos preds done i = true) (ho : ops[i]? = some o) (hco : cOper P N ops o = some (cos i)) (hpre : ∀ j ∈ preds i, j ∉ pend) (hfree : free = true → ∀ j ∈ done, j ∈ preds i ∨ (cos j).op.free = true)
    {C : Env → AHeap → Prop} (hrun : arun P [cos i] E H fun E' H' => (free = true ∨ Grew H H') ∧ C E' H') {Q : Exit → Act → World → Prop} {K : Act → World → Prop}
    (hK : ∀ μ' E' H' a' w', C E' H' → Mid n cos preds F N n0 μ0 w0 (done ++ [i]) pend μ' E' H' a' w' → K a' w') : wpOp P ops Q i K a w := by
  obtain ⟨k1, k2, k3, k4⟩ := addOk_spec hadd
  obtain ⟨ao, hc, hdst, hop, hcd, hgd⟩ := coper_inv hco
  have unm : ∀ t ∈ (cos i).readsG, maskd cos pend E t = E t := fun t ht => maskd_of fun p hp he => hpre p (k3 t ht p (m.lt p (m.sub p hp)) he) hp
  have unop : ∀ t ∈ (cos i).op.reads, E t = maskd cos pend E t := fun t ht => (unm t (by unfold AOper.readsG; exact List.mem_append_left _ ht)).symm
  have putE : ∀ (r : AV) t, (cos i).dst ≠ some t → (E.put (cos i).dst r) t = E t := by
    intro r t ht
    unfold Env.put
    rw [if_neg ht]
  have mput : ∀ r, (maskd cos pend E).put (cos i).dst r = maskd cos pend (E.put (cos i).dst r) := by
    intro r
    funext t
    by_cases ht : (cos i).dst = some t
    · have e1 : (maskd cos pend E).put (cos i).dst r t = r := by unfold Env.put; rw [if_pos ht]
      have e2 : (E.put (cos i).dst r) t = r := by unfold Env.put; rw [if_pos ht]
      rw [e1, maskd_of fun p hp he => ((k4 t ht).2 p (m.sub p hp)).2 he, e2]
    · have e1 : (maskd cos pend E).put (cos i).dst r t = maskd cos pend E t := by unfold Env.put; rw [if_neg ht]
      rw [e1]
      by_cases hx : ∃ p ∈ pend, (cos p).dst = some t
      · obtain ⟨p, hp, he⟩ := hx
        rw [maskd_any hp he, maskd_any hp he]
      · have hno : ∀ p ∈ pend, (cos p).dst ≠ some t := fun p hp he => hx ⟨p, hp, he⟩
        rw [maskd_of hno, maskd_of hno, putE r t ht]
  have next : ∀ {r : AV} {H' : AHeap} {μ' : Mu} {a' : Act} {w' : World}, (free = true ∨ Grew H H') ∧ C (E.put (cos i).dst r) H' → Mu.ext H.next μ μ' → At F N n0 μ0 w0 μ' ((maskd cos pend E).put o.dst r) H' a' w' → K a' w' := by
    rintro r H' μ' a' w' ⟨hf, hC⟩ hx hat
    rw [← hdst, mput r] at hat
    have stay : ∀ p ∈ done, ∀ d, (cos p).dst = some d → (E.put (cos i).dst r) d = E d := fun p hp d hd => putE r d fun he => (k4 d he).2 p hp |>.2 hd
    have rd : ∀ p ∈ done, ∀ t ∈ (cos p).readsG, E t = (E.put (cos i).dst r) t := fun p hp t ht => (putE r t fun he => (k4 t he).2 p hp |>.1 ht).symm
    refine hK μ' _ H' a' w' hC ⟨hat, fun p hp => List.mem_append_left _ (m.sub p hp), ?_, m.nodup, ?_, ?_, ?_, ?_⟩
    · intro p hp
      rcases List.mem_append.1 hp with hp | hp
      · exact m.lt p hp
      · rw [List.mem_singleton] at hp; subst hp; exact k1
    · intro p hp
      refine (m.ok p hp).stable (rd p (m.sub p hp)) (stay p (m.sub p hp)) ?_ hx
      rcases hf with hf | hf
      · rcases hfree hf p (m.sub p hp) with h | h
        · exact absurd hp (hpre p h)
        · exact .inr h
      · exact .inl hf
    · intro p hp q hq hne zs zs' d d' l e1 e2 e3 e4 e5 e6
      rw [stay p (m.sub p hp) d e3] at e5
      rw [stay q (m.sub q hq) d' e4] at e6
      exact m.inj p hp q hq hne zs zs' d d' l e1 e2 e3 e4 e5 e6
    · intro j hj
      rcases List.mem_append.1 hj with hj | hj
      · exact m.reads j hj
      · rw [List.mem_singleton] at hj; rw [hj]; exact k3
    · intro p hp q hq hne d e1 e2
      rcases List.mem_append.1 hp with hp' | hp' <;> rcases List.mem_append.1 hq with hq' | hq'
      · exact m.apart p hp' q hq' hne d e1 e2
      · rw [List.mem_singleton] at hq'; rw [hq'] at e2; exact ((k4 d e2).2 p hp').2 e1
      · rw [List.mem_singleton] at hp'; rw [hp'] at e1; exact ((k4 d e1).2 q hq').2 e2
      · rw [List.mem_singleton] at hp' hq'; exact hne (hp'.trans hq'.symm)
  unfold wpOp
  rw [ho]
  simp only []
  simp only [arun] at hrun
  rcases hgd with ⟨g1, g2⟩ | ⟨j, want, g, t, g1, g2, g3, g4, g5⟩
  · have hw : Region.wanted o (yielded ops a.tmps) = true := by unfold Region.wanted; rw [g1]
    rw [if_pos hw]
    left
    rw [g2] at hrun
    simp only [] at hrun
    rw [aeff_agree unop, hop] at hrun
    refine wp_of_out (aeff_sound hc hrun m.at_.sim m.at_.env) ?_
    rintro v w' ⟨μ', r, H', h1, h2, h3, h4, h5, h6⟩
    exact next h1 h3 (m.at_.step hcd h2 h3 h4 h5 h6)
  · rw [g5] at hrun
    simp only [] at hrun
    have ht : t ∈ (cos i).readsG := by unfold AOper.readsG; rw [g5]; simp
    rw [← unm t ht] at hrun
    obtain ⟨hdet, hrun⟩ := hrun
    rw [gstep_agree unop, hop] at hrun
    exact guard_sound g1 g2 g3 g4 hcd hc m.at_ hdet hrun fun r μ' a' w' hk _ hat hx => next hk hx hat
end
end Go.Ab
