/- Symbolic execution: effects, calls, bodies. -/
import Derived.Test.YtgjhjemmddojfaaSx4
set_option linter.unusedVariables false
set_option linter.unusedSimpArgs false
namespace Go.Ab

/-- What a run may use. -/
structure Pm where
  fl : Nat
  ru : List (RK × SV)
  tb : List (Nat × AFun)
  ap : List (Nat × Nat × List Kd × Kd)
  un : Nat

def newRow (cs : List SV) (s : St) : St := { s with heap := (s.nl, cs, true) :: s.heap, nl := s.nl + 1 }
def putRow (j : Nat) (cs : List SV) (s : St) : St := { s with heap := (j, cs, true) :: s.heap, wm := if j < s.wm then j else s.wm }
def putEnv (d : Option Nat) (v : SV) (s : St) : St := match d with
  | some d => { s with env := (d, v) :: s.env }
  | none => s

/-- From one world on the way to a later one. -/
structure Step (c : Cx) (s : St) (vs : List AV) (ls : List (Nat × Nat)) (H : AHeap) (s' : St) (vs' : List AV) (ls' : List (Nat × Nat)) (H' : AHeap) : Prop where
  inn : In c s' vs' ls' H'
  lev : LeL vs vs'
  lel : LeL ls ls'
  wm : s'.wm ≤ s.wm
  kept : Kept s'.wm ls H H'
  new : ∀ j l b, ls.length ≤ j → ls'[j]? = some (l, b) → H.next ≤ l

section
variable {c : Cx} {s : St} {vs : List AV} {ls : List (Nat × Nat)} {H : AHeap} {E : Env}

theorem Step.refl (h : In c s vs ls H) : Step c s vs ls H s vs ls H :=
  ⟨h, LeL.refl _, LeL.refl _, Nat.le_refl _, Kept.refl _ _ _, fun j l b hj e => by rw [List.getElem?_eq_none hj] at e; cases e⟩
theorem Kept.trans {f g : Nat} {ls ls' : List (Nat × Nat)} {H H' H'' : AHeap} (hgf : g ≤ f) (hl : LeL ls ls') (hn : ∀ j l b, ls.length ≤ j → ls'[j]? = some (l, b) → H.next ≤ l) (h : Kept f ls H H') (k : Kept g ls' H' H'') : Kept g ls H H'' := by
  refine ⟨Nat.le_trans h.1 k.1, fun l hlt hw => ?_⟩
  rw [k.2 l (Nat.lt_of_lt_of_le hlt h.1) ?_, h.2 l hlt fun j b hj => hw j b (Nat.le_trans hgf hj)]
  intro j b hj e
  by_cases hjl : j < ls.length
  · have := hl j _ (List.getElem?_eq_getElem hjl)
    rw [e] at this
    have e2 : ls[j]? = some (l, b) := by rw [List.getElem?_eq_getElem hjl]; exact this.symm
    exact hw j b hj e2
  · have := hn j l b (by omega) e
    omega
theorem Step.trans {s1 s2 : St} {vs1 vs2 : List AV} {ls1 ls2 : List (Nat × Nat)} {H1 H2 : AHeap} (h : Step c s vs ls H s1 vs1 ls1 H1) (k : Step c s1 vs1 ls1 H1 s2 vs2 ls2 H2) : Step c s vs ls H s2 vs2 ls2 H2 := by
  refine ⟨k.inn, h.lev.trans k.lev, h.lel.trans k.lel, Nat.le_trans k.wm h.wm, Kept.trans k.wm h.lel h.new h.kept k.kept, ?_⟩
  intro j l b hj e
  by_cases hjl : j < ls1.length
  · have := k.lel j _ (List.getElem?_eq_getElem hjl)
    rw [e] at this
    have e2 : ls1[j]? = some (l, b) := by rw [List.getElem?_eq_getElem hjl]; exact this.symm
    exact h.new j l b hj e2
  · exact Nat.le_trans h.kept.1 (k.new j l b (by omega) e)

theorem Okk.env (h : Okk c.ρ c.φ s vs ls H) (env : List (Nat × SV)) (w : Nat) : Okk c.ρ c.φ { s with env := env, wm := w } vs ls H := ⟨h.nn, h.ns, h.facts, h.nl, h.sep, h.lt, h.heap⟩
theorem In.env (h : In c s vs ls H) (env : List (Nat × SV)) (w : Nat) : In c { s with env := env, wm := w } vs ls H := ⟨h.ok.env env w, h.lev, h.lel, h.kept, h.new, h.rules⟩

/-- A result that adds only nodes and facts. -/
theorem Got.step (h : In c s vs ls H) {p : SV × St} {a : AV} (g : Got c.ρ c.φ s vs ls H p a) : ∃ vs', Step c s vs ls H p.2 vs' ls H ∧ D vs' ls p.1 a ∧ p.2.env = s.env := by
  obtain ⟨vs', h1, h2, h3, h4⟩ := g
  refine ⟨vs', ⟨⟨h2, h.lev.trans h1, h.lel, h.kept, h.new, h.rules⟩, h1, LeL.refl _, by rw [h4.2.2.2]; exact Nat.le_refl _, Kept.refl _ _ _, fun j l b hj e => by rw [List.getElem?_eq_none hj] at e; cases e⟩, h3, h4.1⟩

theorem new_step (h : In c s vs ls H) {cs : List SV} {ds : List AV} (hd : DL vs ls cs ds) : Step c s vs ls H (newRow cs s) vs (ls ++ [(H.next, 0)]) (H.new (.row ds true)) ∧ (ls ++ [(H.next, 0)])[s.nl]? = some (H.next, 0) := by
  have le : LeL ls (ls ++ [(H.next, 0)]) := LeL.app _ _
  have at' : (ls ++ [(H.next, 0)])[s.nl]? = some (H.next, 0) := by rw [h.ok.nl]; simp
  have nw : ∀ j l b, ls.length ≤ j → (ls ++ [(H.next, 0)])[j]? = some (l, b) → j = ls.length ∧ l = H.next := by
    intro j l b hj e
    rw [List.getElem?_append_right hj] at e
    rcases Nat.eq_zero_or_pos (j - ls.length) with h0 | h0
    · rw [h0] at e; simp at e; exact ⟨by omega, e.1.symm⟩
    · rw [List.getElem?_eq_none (by simp; omega)] at e; cases e
  have old : ∀ j l b, j < ls.length → (ls ++ [(H.next, 0)])[j]? = some (l, b) → ls[j]? = some (l, b) := by
    intro j l b hj e; rwa [List.getElem?_append_left hj] at e
  refine ⟨⟨⟨⟨h.ok.nn, h.ok.ns, h.ok.facts, ?_, ?_, ?_, ?_⟩, h.lev, h.lel.trans le, ?_, ?_, h.rules⟩, LeL.refl _, le, Nat.le_refl _, Kept.of_grew ((Grew.refl H).new _), fun j l b hj e => by rw [(nw j l b hj e).2]; exact Nat.le_refl _⟩, at'⟩
  · simp [newRow, h.ok.nl]
  · intro i j l b b' cs' hf hi hj
    unfold newRow at hf
    simp only [] at hf
    rw [findA_cons] at hf
    have lt_of : ∀ i l b, ls[i]? = some (l, b) → l < H.next := fun i l b e => h.ok.lt l b (List.mem_of_getElem? e)
    by_cases hi' : i < ls.length
    · rw [if_neg (by rw [h.ok.nl]; omega)] at hf
      have hi2 := old i l b hi' hi
      by_cases hj' : j < ls.length
      · exact h.ok.sep i j l b b' cs' hf hi2 (old j l b' hj' hj)
      · have := lt_of _ _ _ hi2
        have := (nw j l b' (by omega) hj).2
        omega
    · obtain ⟨e1, e2⟩ := nw i l b (by omega) hi
      by_cases hj' : j < ls.length
      · have := lt_of _ _ _ (old j l b' hj' hj)
        omega
      · obtain ⟨e3, _⟩ := nw j l b' (by omega) hj
        omega
  · intro l b hl
    rw [AHeap.new_next]
    rcases List.mem_append.1 hl with hl | hl
    · have := h.ok.lt l b hl; omega
    · simp at hl; omega
  · intro j cs' wr hf
    unfold newRow at hf
    simp only [] at hf
    rw [findA_cons] at hf
    split at hf
    · rename_i hj
      subst hj
      cases hf
      exact ⟨H.next, 0, [], ds, [], true, at', by rw [AHeap.new_get, if_pos rfl]; simp, rfl, hd.mono (LeL.refl _) le, fun _ => ⟨rfl, rfl, rfl⟩⟩
    · obtain ⟨l, b, pre, ds', post, wr', h1, h2, h3, h4, h5⟩ := h.ok.heap _ _ _ hf
      have hl := H.lt_of_get h2
      exact ⟨l, b, pre, ds', post, wr', le _ _ h1, by rw [AHeap.new_get, if_neg (by omega)]; exact h2, h3, h4.mono (LeL.refl _) le, h5⟩
  · refine ⟨by rw [AHeap.new_next]; have := h.kept.1; omega, fun l hl hw => ?_⟩
    rw [AHeap.new_get, if_neg (by have := h.kept.1; omega)]
    exact h.kept.2 l hl hw
  · intro j l b hj e
    by_cases hjl : j < ls.length
    · exact h.new j l b hj (old j l b hjl e)
    · rw [(nw j l b (by omega) e).2]
      exact h.kept.1

theorem put_step (h : In c s vs ls H) {j l b : Nat} (hj : ls[j]? = some (l, b)) (hf : c.fl ≤ j) {cs0 : List SV} (hh : findA j s.heap = some (cs0, true)) {ds0 : List AV} (hg : H.get l = some (.row ds0 true)) (hb : b = 0) {cs : List SV} {ds : List AV} (hd : DL vs ls cs ds) : Step c s vs ls H (putRow j cs s) vs ls (H.put l (.row ds true)) := by
  have hl := H.lt_of_get hg
  have uniq : ∀ j' b', ls[j']? = some (l, b') → j' = j := fun j' b' e => (h.ok.sep j j' l b b' cs0 hh hj e).symm
  have wmj : (putRow j cs s).wm ≤ j := by
    show (if j < s.wm then j else s.wm) ≤ j
    split <;> omega
  refine ⟨⟨⟨h.ok.nn, h.ok.ns, h.ok.facts, h.ok.nl, ?_, h.ok.lt, ?_⟩, h.lev, h.lel, ?_, h.new, h.rules⟩, LeL.refl _, LeL.refl _, ?_, ?_, fun j l b hj e => by rw [List.getElem?_eq_none hj] at e; cases e⟩
  · intro i i' l' b1 b2 cs' hf' h1 h2
    unfold putRow at hf'
    simp only [] at hf'
    rw [findA_cons] at hf'
    split at hf'
    · rename_i e
      subst e
      rw [hj] at h1
      cases h1
      exact (uniq i' b2 h2).symm
    · exact h.ok.sep i i' l' b1 b2 cs' hf' h1 h2
  · intro j' cs' wr hf'
    unfold putRow at hf'
    simp only [] at hf'
    rw [findA_cons] at hf'
    split at hf'
    · rename_i e
      subst e
      cases hf'
      exact ⟨l, b, [], ds, [], true, hj, by rw [get_put_eq rfl hl]; simp, hb.symm, hd, fun _ => ⟨rfl, rfl, rfl⟩⟩
    · rename_i e
      obtain ⟨l', b', pre, ds', post, wr', h1, h2, h3, h4, h5⟩ := h.ok.heap _ _ _ hf'
      refine ⟨l', b', pre, ds', post, wr', h1, ?_, h3, h4, h5⟩
      rw [get_put_ne]
      · exact h2
      · intro e'; subst e'; exact e (uniq _ _ h1)
  · refine ⟨h.kept.1, fun l' hl' hw => ?_⟩
    by_cases e : l' = l
    · subst e
      by_cases hjc : j < c.ls.length
      · have := h.lel j _ (List.getElem?_eq_getElem hjc)
        rw [hj] at this
        have e2 : c.ls[j]? = some (l', b) := by rw [List.getElem?_eq_getElem hjc]; exact this.symm
        exact absurd e2 (hw j b hf)
      · have := h.new j l' b (by omega) hj
        omega
    · rw [get_put_ne e]; exact h.kept.2 l' hl' hw
  · show (if j < s.wm then j else s.wm) ≤ s.wm
    split <;> omega
  · refine ⟨Nat.le_refl _, fun l' hl' hw => ?_⟩
    rw [get_put_ne]
    rintro rfl
    exact hw j b wmj hj
end

/-- How a callee is run. -/
abbrev CallF := FuncId → List SV → St → Option (List (SV × St × Bool))

def r3 (p : SV × St) : SV × St := p

/-- An operation without a guard. -/
def sx1 (call : CallF) (pm : Pm) (op : AOp) (s : St) : Option (List (SV × St)) :=
  match op with
  | .alloc zs => if zs.all litOk then some [(.ptr s.nl 0, newRow (zs.map .lit) s)] else none
  | .box x => match (sev s.env x).bind cellsS with
    | some cs => some [(.ptr s.nl 0, newRow cs s)]
    | none => none
  | .bslice sz len zs parts => if zs.all litOk then match fillS s.env (zs.map .lit) parts with
      | some cs => some [(.sl s.nl 0 len len sz, newRow cs s)]
      | none => none
    else none
  | .store n a x => match sev s.env a, (sev s.env x).bind cellsS with
    | some (.ptr j off), some us => match findA j s.heap with
      | some (cs, true) => if pm.fl ≤ j ∧ us.length = n ∧ off + n ≤ cs.length ∧ us.all oneS = true then
          some [(.lit .undef, putRow j (cs.take off ++ us ++ cs.drop (off + us.length)) s)]
        else none
      | _ => none
    | _, _ => none
  | .mkSlice sz bytes zs x y => match (sev s.env x).bind natLit, (sev s.env y).bind natLit with
    | some n, some m => if n ≤ m ∧ bytes * m ≤ 2 ^ 48 ∧ m ≤ 1000 ∧ zs.all litOk = true then
        some [(.sl s.nl 0 n m sz, newRow ((List.replicate m zs).flatten.map .lit) s)]
      else none
    | _, _ => none
  | .call f args => match sevL s.env args with
    | some as => (call f as s).map fun ps => ps.map fun p => (p.1, p.2.1)
    | none => none
  | .callV g args => match sev s.env g, sevL s.env args with
    | some (.fn f first cap), some as => (call f (first ++ as ++ cap) s).map fun ps => ps.map fun p => (p.1, p.2.1)
    | _, _ => none
  | op => sxq pm.ru op s

/-- An operation, put where it goes. -/
def sxOper (call : CallF) (pm : Pm) (o : AOper) (s : St) : Option (List St) :=
  match o.guard with
  | none => (sx1 call pm o.op s).map fun ps => ps.map fun p => putEnv o.dst p.1 p.2
  | some (t, want) => match findA t s.env with
    | some (.lit .undef) => some [putEnv o.dst (.lit .undef) s]
    | some v => match kdOf v with
      | some .bool => seqL (fun (p : Bool × St) =>
          if p.1 = want then
            match o.op with
            | .call f args => match sevL p.2.env args with
              | some as => match call f as p.2 with
                | some ps => if ps.all (fun q => q.2.2) then some (ps.map fun q => putEnv o.dst q.1 q.2.1) else none
                | none => none
              | none => none
            | op => if op.quiet then (sxq pm.ru op p.2).map fun ps => ps.map fun q => putEnv o.dst q.1 q.2 else none
          else some [putEnv o.dst (.lit .undef) p.2]) (splitB v s)
      | _ => none
    | none => none

def sxOps (call : CallF) (pm : Pm) : List AOper → St → List (List AOper × St)
  | [], s => [([], s)]
  | o :: rest, s => match sxOper call pm o s with
    | some ss => (ss.map fun s1 => sxOps call pm rest s1).flatten
    | none => [(o :: rest, s)]

inductive Fr where
  | seq (b : ACode)
  | block (id : Nat)
  | loop (a : ACode)
inductive Pt where
  | ex (e : AExit)
  | ops (rest : List AOper) (fr : List Fr)
  | mixq (rest : List AOper) (kids : AKids) (fr : List Fr)
  | kids (ks : AKids) (fr : List Fr)
  | code (a : ACode) (fr : List Fr)
def Pt.push (f : Fr) : Pt → Pt
  | .ex e => .ex e
  | .ops r fr => .ops r (fr ++ [f])
  | .mixq r k fr => .mixq r k (fr ++ [f])
  | .kids k fr => .kids k (fr ++ [f])
  | .code a fr => .code a (fr ++ [f])
def konts (P : Program) : List Fr → (AExit → Env → AHeap → Prop) → AExit → Env → AHeap → Prop
  | [], Q => Q
  | .seq b :: fr, Q => seqK P b (konts P fr Q)
  | .block id :: fr, Q => blockK id (konts P fr Q)
  | .loop a :: fr, Q => loopK (aexec P (.loop a) (konts P fr Q)) (konts P fr Q)
/-- What is left to show at a point. -/
def Res (P : Program) (o : Pt) (Q : AExit → Env → AHeap → Prop) (E : Env) (H : AHeap) : Prop := match o with
  | .ex e => Q e E H
  | .ops rest fr => arun P rest E H (konts P fr Q .normal)
  | .mixq rest ks fr => arun P rest E H (mixK P ks (konts P fr Q .normal))
  | .kids ks fr => mixK P ks (konts P fr Q .normal) E H
  | .code a fr => aexec P a (konts P fr Q) E H

mutual
def sxMix (call : CallF) (pm : Pm) : ATree → St → List (Pt × St)
  | .node qs ks, s => ((sxOps call pm qs s).map fun p => match p.1 with
    | [] => sxKids call pm ks p.2
    | r => [(.mixq r ks [], p.2)]).flatten
def sxKids (call : CallF) (pm : Pm) : AKids → St → List (Pt × St)
  | .nil, s => [(.ex .normal, s)]
  | .cons free o t rest, s => match rest.isNil with
    | true => match sxOper call pm o { s with wm := s.nl } with
      | some ss => if ss.all (fun s1 => free || Nat.ble s.nl s1.wm) then (ss.map fun s1 => sxMix call pm t { s1 with wm := Nat.min s.wm s1.wm }).flatten else [(.kids (.cons free o t rest) [], s)]
      | none => [(.kids (.cons free o t rest) [], s)]
    | false => [(.kids (.cons free o t rest) [], s)]
end

def sxIter (a : ACode) (body : St → List (Pt × St)) : Nat → St → List (Pt × St)
  | 0, s => [(.code (.loop a) [], s)]
  | n + 1, s => ((body s).map fun p => match p.1 with
    | .ex .normal => sxIter a body n p.2
    | .ex e => [(.ex e, p.2)]
    | o => [(o.push (.loop a), p.2)]).flatten

def sxCode (call : CallF) (pm : Pm) : ACode → St → List (Pt × St)
  | .skip, s => [(.ex .normal, s)]
  | .run ops, s => (sxOps call pm ops s).map fun p => (match p.1 with
    | [] => .ex .normal
    | r => .ops r [], p.2)
  | .mix t, s => sxMix call pm t s
  | .seq a b, s => ((sxCode call pm a s).map fun p => match p.1 with
    | .ex .normal => sxCode call pm b p.2
    | .ex e => [(.ex e, p.2)]
    | o => [(o.push (.seq b), p.2)]).flatten
  | .cond c a b, s => match sev s.env c with
    | some v => match kdOf v with
      | some .bool => ((splitB v s).map fun p => if p.1 = true then sxCode call pm a p.2 else sxCode call pm b p.2).flatten
      | _ => [(.code (.cond c a b) [], s)]
    | none => [(.code (.cond c a b) [], s)]
  | .block id a, s => (sxCode call pm a s).map fun p => (match p.1 with
    | .ex (.exit i) => if i = id then .ex .normal else .ex (.exit i)
    | .ex e => .ex e
    | o => o.push (.block id), p.2)
  | .loop a, s => sxIter a (fun s => sxCode call pm a s) pm.un s
  | .exit id, s => [(.ex (.exit id), s)]
  | .ret, s => [(.ex .ret, s)]

def sxFr (call : CallF) (pm : Pm) : List Fr → AExit → St → List (Pt × St)
  | [], e, s => [(.ex e, s)]
  | .seq b :: fr, e, s => match e with
    | .normal => ((sxCode call pm b s).map fun p => match p.1 with
      | .ex e => sxFr call pm fr e p.2
      | o => [(fr.foldl (fun o f => o.push f) o, p.2)]).flatten
    | e => sxFr call pm fr e s
  | .block id :: fr, e, s => match e with
    | .exit i => sxFr call pm fr (if i = id then .normal else .exit i) s
    | e => sxFr call pm fr e s
  | .loop a :: fr, e, s => match e with
    | .normal => ((sxIter a (fun s => sxCode call pm a s) pm.un s).map fun p => match p.1 with
      | .ex e => sxFr call pm fr e p.2
      | o => [(fr.foldl (fun o f => o.push f) o, p.2)]).flatten
    | e => sxFr call pm fr e s

/-- From a point on. -/
def sxGo (call : CallF) (pm : Pm) (o : Pt) (s : St) : List (Pt × St) :=
  let go := fun (outs : List (Pt × St)) (fr : List Fr) => (outs.map fun p => match p.1 with
      | .ex e => sxFr call pm fr e p.2
      | o => [(fr.foldl (fun o f => o.push f) o, p.2)]).flatten
  match o with
  | .ex e => [(.ex e, s)]
  | .ops r fr => go (sxCode call pm (.run r) s) fr
  | .mixq r ks fr => go (sxMix call pm (.node r ks) s) fr
  | .kids ks fr => go (sxKids call pm ks s) fr
  | .code a fr => go (sxCode call pm a s) fr

def sres1 (r : ARes) (s : St) : Option SV := match r with
  | .tmp t => findA t s.env
  | .cell t ag n => match findA t s.env with
    | some (.ptr j off) => match findA j s.heap with
      | some (cs, _) => partS ag n off cs
      | none => none
    | _ => none
def sresL (s : St) : List ARes → Option (List SV)
  | [] => some []
  | r :: rs => match sres1 r s, sresL s rs with
    | some v, some vs => some (v :: vs)
    | _, _ => none
def stup : List SV → SV
  | [x] => x
  | xs => .tup xs
def sres (rs : List ARes) (s : St) : Option SV := (sresL s rs).map stup

def startEnv : Nat → List SV → List (Nat × SV)
  | _, [] => []
  | t, v :: vs => (t, v) :: startEnv (t + 1) vs

def kdLe : Kd → Kd → Bool
  | a, b => decide (a = b) || (decide (b = .flt .f64) && decide (a = .f64n))
def kdsOk : List SV → List Kd → Bool
  | [], [] => true
  | x :: xs, k :: ks => (match kdOf x with
    | some k' => kdLe k' k
    | none => false) && kdsOk xs ks
  | _, _ => false
def findP (f : Nat) (as : List SV) : List (Nat × Nat × List Kd × Kd) → Option (Nat × Kd)
  | [] => none
  | (f', g, ks, kd) :: rest => match Nat.beq f f' && kdsOk as ks with
    | true => some (g, kd)
    | false => findP f as rest

def finC (rs : List ARes) (s : St) : List (Pt × St) → Option (List (SV × St × Bool))
  | [] => some []
  | p :: rest =>
    match (match p.1 with
      | .ex .normal => sres rs p.2
      | .ex .ret => sres rs p.2
      | _ => none), finC rs s rest with
    | some v, some ps => match v.flat && Nat.ble s.nl p.2.wm with
      | true => some ((v, { p.2 with env := s.env, heap := s.heap, nl := s.nl, wm := s.wm }, true) :: ps)
      | false => some ((v, { p.2 with env := s.env, wm := Nat.min s.wm p.2.wm }, false) :: ps)
    | _, _ => none

def sxCall (pm : Pm) : Nat → CallF
  | d, f, args, s => match findR (.call f args) pm.ru with
    | some v => some [(v, s, true)]
    | none => match findP f args pm.ap with
      | some (0, kd) => match args with
        | [x] => some [((mk (.bits x) kd s).1, (mk (.bits x) kd s).2, true)]
        | _ => none
      | some (g + 1, kd) => some [((mk (.app (g + 1) args) kd s).1, (mk (.app (g + 1) args) kd s).2, true)]
      | none => match d with
        | 0 => none
        | d + 1 => match findA f pm.tb with
          | some af => if args.length ≤ af.ntmps then
              finC af.results s (sxCode (sxCall pm d) { pm with un := 1000 } af.body { s with env := startEnv 0 args, wm := s.nl })
            else none
          | none => none
end Go.Ab
