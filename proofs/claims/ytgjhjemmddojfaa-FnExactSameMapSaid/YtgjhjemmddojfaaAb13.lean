/- Regions: operations one behind the other. -/
import Derived.Test.YtgjhjemmddojfaaAb12
set_option linter.unusedVariables false
set_option linter.unusedSimpArgs false
namespace Go.Ab

structure AOper where
  dst : Option Nat
  op : AOp
  guard : Option (Nat × Bool)

def Env.put (E : Env) (d : Option Nat) (v : AV) : Env := fun t => if d = some t then v else E t
theorem Env.put_some (E : Env) (d : Nat) (v : AV) (t : Nat) : E.put (some d) v t = if d = t then v else E t := by
  unfold Env.put
  by_cases h : d = t <;> simp [h]
theorem Env.put_none (E : Env) (v : AV) : E.put none v = E := rfl

/-- Is it known whether this is a bool (and which)? -/
def AV.det : AV → Prop
  | .bool _ => True
  | .undef => True
  | _ => False
def AV.yb : AV → Option Bool
  | .bool b => some b
  | _ => none

/-- A call that changes nothing and gives just this. -/
def APure (P : Program) (f : FuncId) (args : List AV) (H : AHeap) (r : AV) : Prop := ACalls P f args H fun r' H' => r' = r ∧ H' = H

/-- One operation under a guard. -/
def gstep (P : Program) (E : Env) (H : AHeap) (c : Prop) [Decidable c] (op : AOp) (k : AV → Prop) : Prop :=
  match op with
  | .call f args => ∃ r, (c → APure P f (args.map (·.ev E)) H r) ∧ k (if c then r else .undef)
  | .callV g args => match g.ev E with
    | .func f first cap => ∃ r, (c → APure P f (first ++ args.map (·.ev E) ++ cap) H r) ∧ k (if c then r else .undef)
    | _ => ¬ c ∧ k .undef
  | op => match aval E H.get op with
    | some r => k (if c then r else .undef)
    | none => ¬ c ∧ k .undef

def arun (P : Program) : List AOper → Env → AHeap → (Env → AHeap → Prop) → Prop
  | [], E, H, k => k E H
  | o :: rest, E, H, k => match o.guard with
    | none => aeff P E H (fun r H' => arun P rest (E.put o.dst r) H' k) o.op
    | some (t, want) => (E t).det ∧ gstep P E H ((E t).yb = some want) o.op fun r => arun P rest (E.put o.dst r) H k

section
variable (P : Program) (N : Nat)
def cDst (d : Option Nat) : Bool := match d with
  | none => true
  | some d => d < N
def cOper (ops : Array Oper) (o : Oper) : Option AOper :=
  match o.guard with
  | none => do if cDst N o.dst then some { dst := o.dst, op := ← comp P o.op, guard := none } else none
  | some (j, want) => do
    let g ← ops[j]?
    let t ← g.dst
    if cDst N o.dst && t < N then some { dst := o.dst, op := ← comp P o.op, guard := some (t, want) } else none
end

section
variable {P : Program} {N : Nat} {μ : Mu} {E : Env} {a : Act} {F : Nat → Prop} {H : AHeap} {w : World}

theorem RE.put (he : RE μ E a) {d : Option Nat} (hd : cDst a.tmps.size d = true) {x : AV} {v : Value} (hr : R μ x v) : RE μ (E.put d x) (a.put d v) := by
  cases d with
  | none => exact he
  | some d =>
    intro t
    rw [Env.put_some]
    simp only [Act.put, Array.getD_eq_getD_getElem?, Array.getElem?_setIfInBounds]
    simp only [cDst, decide_eq_true_eq] at hd
    split
    · rename_i h; subst h; simpa [hd] using hr
    · have := he t
      rwa [Array.getD_eq_getD_getElem?] at this

theorem put_size (a : Act) (d : Option Nat) (v : Value) : (a.put d v).tmps.size = a.tmps.size := by
  cases d <;> simp [Act.put]
theorem put_defers (a : Act) (d : Option Nat) (v : Value) : (a.put d v).defers = a.defers := by
  cases d <;> simp [Act.put]

theorem RE.ext (hs : Sim F μ H w) (he : RE μ E a) {μ' : Mu} (hx : Mu.ext H.next μ μ') : RE μ' E a := fun t => hs.lift hx (he t)

/-- What holds in the middle of a body: 'n0', 'μ0', 'w0' of the place from which it is told. -/
structure At (F : Nat → Prop) (N n0 : Nat) (μ0 : Mu) (w0 : World) (μ : Mu) (E : Env) (H : AHeap) (a : Act) (w : World) : Prop where
  sim : Sim F μ H w
  env : RE μ E a
  size : a.tmps.size = N
  defers : a.defers = []
  keeps : Keeps F w0 w
  ext : Mu.ext n0 μ0 μ
  next : n0 ≤ H.next

/-- Behind a piece: a state that 'k' lets. -/
def Post (F : Nat → Prop) (N n0 : Nat) (μ0 : Mu) (w0 : World) (k : Env → AHeap → Prop) (a : Act) (w : World) : Prop :=
  ∃ μ E H, k E H ∧ At F N n0 μ0 w0 μ E H a w

theorem Post.mono {n0 : Nat} {μ0 : Mu} {w0 : World} {k k' : Env → AHeap → Prop} (h : Post F N n0 μ0 w0 k a w) (hk : ∀ E H, k E H → k' E H) : Post F N n0 μ0 w0 k' a w := by
  obtain ⟨μ, E, H, h1, h2⟩ := h
  exact ⟨μ, E, H, hk _ _ h1, h2⟩

theorem upon_of_next {o : Oper} {next : Act → World → Prop} {Q : Exit → Act → World → Prop} {r : Result Next} (h : NextOk P (fun v w' => next (a.put o.dst v) w') r) : o.upon P a next Q r := by
  cases r with
  | ok n w' =>
    cases n <;> simp only [NextOk] at h
    case value v => exact h
    case skip => exact h
    case enter f args =>
      refine Calls.mono h ?_
      rintro e w'' ⟨v, rfl, hv⟩
      exact hv
  | halt x w' => exact h.elim

/-- One operation, walked: whatever its outcome, 'next'. -/
theorem wp_of_out {o : Oper} {k : AV → AHeap → Prop} {next : Act → World → Prop} {Q : Exit → Act → World → Prop} (h : NextOk P (Out F μ H w k) ((execOp a.eval o).run P w))
    (hn : ∀ v w', Out F μ H w k v w' → next (a.put o.dst v) w') : o.wp P a w next Q :=
  upon_of_next (h.mono hn)

theorem At.step {n0 : Nat} {μ0 : Mu} {w0 : World} (h : At F N n0 μ0 w0 μ E H a w) {o : Oper} (hd : cDst N o.dst = true) {μ' : Mu} {r : AV} {H' : AHeap} {v : Value} {w' : World}
    (hn : H.next ≤ H'.next) (hx : Mu.ext H.next μ μ') (hs : Sim F μ' H' w') (hr : R μ' r v) (hk : Keeps F w w') : At F N n0 μ0 w0 μ' (E.put o.dst r) H' (a.put o.dst v) w' :=
  ⟨hs, (RE.ext h.sim h.env hx).put (by rw [h.size]; exact hd) hr, by rw [put_size]; exact h.size, by rw [put_defers]; exact h.defers, h.keeps.trans hk, Mu.ext_trans h.ext hx h.next, Nat.le_trans h.next hn⟩

theorem yb_of {ops : Array Oper} {j t : Nat} {g : Oper} (hj : ops[j]? = some g) (hg : g.dst = some t) (ht : t < a.tmps.size) (he : RE μ E a) (hd : (E t).det) : yielded ops a.tmps j = (E t).yb := by
  have h := he t
  have hv : a.tmps[t]? = some (a.tmps.getD t Go.undef) := by
    rw [Array.getD_eq_getD_getElem?, Array.getElem?_eq_getElem ht]; rfl
  unfold yielded
  rw [hj]
  simp only [Option.bind_some, hg, hv]
  generalize a.tmps.getD t Go.undef = v at h
  cases hE : E t <;> rw [hE] at h hd <;> simp only [AV.det] at hd
  · cases h; rfl
  · cases h; rfl

/-- A step under a guard. -/
theorem guard_sound {ops : Array Oper} {o : Oper} {j t : Nat} {want : Bool} {g : Oper} (hg : o.guard = some (j, want)) (hj : ops[j]? = some g) (hgd : g.dst = some t) (ht : t < N) (hdst : cDst N o.dst = true) {ao : AOp} (hc : comp P o.op = some ao)
    {n0 : Nat} {μ0 : Mu} {w0 : World} (h : At F N n0 μ0 w0 μ E H a w) (hdet : (E t).det) {k : AV → Prop} (hk : gstep P E H ((E t).yb = some want) ao k) {next : Act → World → Prop} {Q : Exit → Act → World → Prop}
    (hn : ∀ r μ' a' w', k r → a'.tmps.size = N → At F N n0 μ0 w0 μ' (E.put o.dst r) H a' w' → Mu.ext H.next μ μ' → next a' w') :
    if Region.wanted o (yielded ops a.tmps) then o.wp P a w next Q ∨ (o.asks P a w ∧ LetsOut Q) else next (a.put o.dst Go.undef) w := by
  have hy : yielded ops a.tmps j = (E t).yb := yb_of hj hgd (by rw [h.size]; exact ht) h.env hdet
  have hw : Region.wanted o (yielded ops a.tmps) = ((E t).yb == some want) := by unfold Region.wanted; rw [hg, ← hy]
  rw [hw]
  by_cases hc' : (E t).yb = some want
  · rw [if_pos (by simp [hc'])]
    left
    have fin : ∀ {r : AV}, k r → NextOk P (Out F μ H w fun r' H' => r' = r ∧ H' = H) ((execOp a.eval o).run P w) → o.wp P a w next Q := by
      intro r hkr hok
      refine wp_of_out hok ?_
      rintro v w' ⟨μ', r', H', ⟨rfl, rfl⟩, h1, h2, h3, h4, h5⟩
      exact hn _ μ' _ _ hkr (by rw [put_size]; exact h.size) (h.step hdst h1 h2 h3 h4 h5) h2
    unfold gstep at hk
    split at hk
    · rename_i f args
      obtain ⟨r, hp, hk⟩ := hk
      rw [if_pos hc'] at hk
      exact fin hk (aeff_sound hc (hp hc') h.sim h.env)
    · rename_i g' args
      split at hk
      · rename_i f first cap hE
        obtain ⟨r, hp, hk⟩ := hk
        rw [if_pos hc'] at hk
        refine fin hk (aeff_sound hc ?_ h.sim h.env)
        simp only [aeff, hE]
        exact hp hc'
      · exact absurd hc' hk.1
    · split at hk
      · rename_i r hr
        rw [if_pos hc'] at hk
        obtain ⟨v, w', h1, h2, h3⟩ := aval_sound hc hr h.sim h.env
        refine fin hk ?_
        rw [h1]
        exact Out.drew ⟨rfl, rfl⟩ h.sim h3 h2
      · exact absurd hc' hk.1
  · rw [if_neg (by simpa using hc')]
    have hk' : k .undef := by
      unfold gstep at hk
      split at hk
      · obtain ⟨r, hp, hk⟩ := hk; rwa [if_neg hc'] at hk
      · split at hk
        · obtain ⟨r, hp, hk⟩ := hk; rwa [if_neg hc'] at hk
        · exact hk.2
      · split at hk
        · rwa [if_neg hc'] at hk
        · exact hk.2
    exact hn _ μ _ _ hk' (by rw [put_size]; exact h.size) (h.step hdst (Nat.le_refl _) (Mu.ext_refl _ _) h.sim .undef (Keeps.refl _ _)) (Mu.ext_refl _ _)

theorem arun_sound {ops : Array Oper} {n0 : Nat} {μ0 : Mu} {w0 : World} {Q : Exit → Act → World → Prop} {k : Env → AHeap → Prop} (hQ : ∀ a w, Post F N n0 μ0 w0 k a w → Q .normal a w) :
    ∀ (l : List Oper) (cl : List AOper) (i : Nat) (μ : Mu) (E : Env) (H : AHeap) (a : Act) (w : World), (∀ j, l[j]? = ops[i + j]?) → l.mapM (cOper P N ops) = some cl → At F N n0 μ0 w0 μ E H a w → arun P cl E H k →
      wpOps P ops Q (List.range' i l.length) a w
  | [], cl, i, μ, E, H, a, w, _, hm, h, hr => by
    simp at hm; subst hm
    exact hQ a w ⟨μ, E, H, hr, h⟩
  | o :: l, cl, i, μ, E, H, a, w, hl, hm, h, hr => by
    have h0 : ops[i]? = some o := by simpa using (hl 0).symm
    simp only [List.mapM_cons, Option.bind_eq_bind, Option.bind_eq_some_iff, Option.pure_def, Option.some.injEq] at hm
    obtain ⟨co, hco, cl', hcl, rfl⟩ := hm
    have hl' : ∀ j, l[j]? = ops[i + 1 + j]? := fun j => by have := hl (j + 1); simpa [Nat.add_assoc, Nat.add_comm 1 j] using this
    simp only [List.length_cons, List.range'_succ]
    simp only [wpOps, h0]
    unfold cOper at hco
    cases hg : o.guard with
    | none =>
      rw [hg] at hco
      simp only at hco
      split at hco
      · rename_i hd
        simp only [Option.bind_eq_bind, Option.bind_eq_some_iff, Option.some.injEq] at hco
        obtain ⟨ao, hc, rfl⟩ := hco
        simp only [arun] at hr
        have hw : Region.wanted o (yielded ops a.tmps) = true := by unfold Region.wanted; rw [hg]
        rw [if_pos hw]
        left
        refine wp_of_out (aeff_sound hc hr h.sim h.env) ?_
        rintro v w' ⟨μ', r, H', h1, h2, h3, h4, h5, h6⟩
        exact arun_sound hQ l cl' (i + 1) μ' _ H' _ w' hl' hcl (h.step hd h2 h3 h4 h5 h6) h1
      · cases hco
    | some jw =>
      obtain ⟨j, want⟩ := jw
      rw [hg] at hco
      simp only [Option.bind_eq_bind, Option.bind_eq_some_iff] at hco
      obtain ⟨g, hj, t, hgd, hco⟩ := hco
      split at hco
      · rename_i hd
        simp only [Bool.and_eq_true, decide_eq_true_eq] at hd
        simp only [Option.bind_eq_some_iff, Option.some.injEq] at hco
        obtain ⟨ao, hc, rfl⟩ := hco
        simp only [arun] at hr
        exact guard_sound hg hj hgd hd.2 hd.1 hc h hr.1 hr.2 (fun r μ' a' w' hk _ hat _ => arun_sound hQ l cl' (i + 1) μ' _ H _ w' hl' hcl hat hk)
      · cases hco
end
end Go.Ab
