/- Regions whose order is drawn: operations that are ready are done ahead. -/
import Derived.Test.YtgjhjemmddojfaaAb13
set_option linter.unusedVariables false
set_option linter.unusedSimpArgs false
namespace Go.Ab

structure Grew (H H' : AHeap) : Prop where
  next : H.next ≤ H'.next
  get : ∀ l, l < H.next → H'.get l = H.get l
theorem Grew.refl (H : AHeap) : Grew H H := ⟨Nat.le_refl _, fun _ _ => rfl⟩
theorem Grew.trans {A B C : AHeap} (h : Grew A B) (k : Grew B C) : Grew A C := ⟨Nat.le_trans h.next k.next, fun l hl => (k.get l (Nat.lt_of_lt_of_le hl h.next)).trans (h.get l hl)⟩
theorem Grew.new {H H' : AHeap} (h : Grew H H') (b : HB) : Grew H (H'.new b) :=
  ⟨by rw [AHeap.new_next]; have := h.next; omega, fun l hl => by rw [AHeap.new_get, if_neg (by have := h.next; omega)]; exact h.get l hl⟩
theorem Grew.put {H H' : AHeap} (h : Grew H H') {l : Nat} (hl : H.next ≤ l) (b : HB) : Grew H (H'.put l b) :=
  ⟨h.next, fun l' hl' => by rw [AHeap.put_get, if_neg (by omega)]; exact h.get l' hl'⟩
theorem Grew.del {H H' : AHeap} (h : Grew H H') {l : Nat} (hl : H.next ≤ l) : Grew H (H'.del l) :=
  ⟨h.next, fun l' hl' => by rw [AHeap.del_get, if_neg (by omega)]; exact h.get l' hl'⟩
theorem Grew.at {H H' : AHeap} (h : Grew H H') {l : Nat} {b : HB} (hg : H.get l = some b) : H'.get l = some b := by rw [h.get l (H.lt_of_get hg)]; exact hg

/-! ### What an operation reads -/

def Opd.reads : Opd → List Nat
  | .tmp t => [t]
  | .const _ => []
def optReads : Option Opd → List Nat
  | some x => x.reads
  | none => []
def partReads (ps : List (Nat × Nat × Opd)) : List Nat := ps.flatMap fun p => p.2.2.reads
def AOp.reads : AOp → List Nat
  | .move x => x.reads
  | .pick c a b => c.reads ++ a.reads ++ b.reads
  | .load _ _ a => a.reads
  | .nilCheck x => x.reads
  | .bin _ x y => x.reads ++ y.reads
  | .eqAgg _ _ _ x y => x.reads ++ y.reads
  | .eqBool _ x y => x.reads ++ y.reads
  | .eqNilI _ x y => x.reads ++ y.reads
  | .eqNilS _ x y => x.reads ++ y.reads
  | .un _ x => x.reads
  | .conv _ x => x.reads
  | .fn _ as bs => as.flatMap Opd.reads ++ bs.flatMap Opd.reads
  | .build _ ps => partReads ps
  | .slArr _ _ x lo hi mx => x.reads ++ optReads lo ++ optReads hi ++ optReads mx
  | .slSl _ x lo hi mx => x.reads ++ optReads lo ++ optReads hi ++ optReads mx
  | .slStr x lo hi => x.reads ++ optReads lo ++ optReads hi
  | .faddr _ x => x.reads
  | .field _ _ _ x => x.reads
  | .iaArr _ _ x i => x.reads ++ i.reads
  | .iaSl _ x i => x.reads ++ i.reads
  | .ixArr _ _ _ x i => x.reads ++ i.reads
  | .ixStr x i => x.reads ++ i.reads
  | .extract _ x => x.reads
  | .len x => x.reads
  | .lenStr x => x.reads
  | .lenC _ => []
  | .cap x => x.reads
  | .min2 x y => x.reads ++ y.reads
  | .max2 x y => x.reads ++ y.reads
  | .lookup _ _ x k => x.reads ++ k.reads
  | .iface _ x => x.reads
  | .alloc _ => []
  | .box x => x.reads
  | .bslice _ _ _ ps => partReads ps
  | .store _ a x => a.reads ++ x.reads
  | .mkSlice _ _ _ x y => x.reads ++ y.reads
  | .append _ _ x y => x.reads ++ y.reads
  | .copy _ x y => x.reads ++ y.reads
  | .clear _ _ x => x.reads
  | .makeMap => []
  | .mapUpdate x k v => x.reads ++ k.reads ++ v.reads
  | .call _ as => as.flatMap Opd.reads
  | .callV f as => f.reads ++ as.flatMap Opd.reads

def AOp.quiet : AOp → Bool
  | .alloc _ => false
  | .box _ => false
  | .bslice _ _ _ _ => false
  | .store _ _ _ => false
  | .mkSlice _ _ _ _ _ => false
  | .append _ _ _ _ => false
  | .copy _ _ _ => false
  | .clear _ _ _ => false
  | .makeMap => false
  | .mapUpdate _ _ _ => false
  | .call _ _ => false
  | .callV _ _ => false
  | _ => true

/-- Quiet, and it does not look at the heap. -/
def AOp.free : AOp → Bool
  | .load _ _ _ => false
  | .conv _ _ => false
  | .slArr _ _ _ _ _ _ => false
  | .lookup _ _ _ _ => false
  | op => op.quiet

theorem Opd.agree {E E' : Env} {x : Opd} (h : ∀ t ∈ x.reads, E t = E' t) : x.ev E = x.ev E' := by
  cases x with
  | tmp t => exact h t (by simp [Opd.reads])
  | const a => rfl
theorem opt_agree {E E' : Env} {x : Option Opd} (h : ∀ t ∈ optReads x, E t = E' t) : x.map (·.ev E) = x.map (·.ev E') := by
  cases x with
  | none => rfl
  | some x => exact congrArg some (Opd.agree h)
theorem args_agree {E E' : Env} : ∀ {as : List Opd}, (∀ t ∈ as.flatMap Opd.reads, E t = E' t) → as.map (·.ev E) = as.map (·.ev E')
  | [], _ => rfl
  | a :: as, h => by
    simp only [List.flatMap_cons, List.mem_append] at h
    simp only [List.map_cons]
    rw [Opd.agree fun t ht => h t (.inl ht), args_agree fun t ht => h t (.inr ht)]
theorem fill_agree {E E' : Env} : ∀ {ps : List (Nat × Nat × Opd)} {cs : List AV}, (∀ t ∈ partReads ps, E t = E' t) → fillA E cs ps = fillA E' cs ps
  | [], cs, _ => rfl
  | (o, s, x) :: ps, cs, h => by
    simp only [partReads, List.flatMap_cons, List.mem_append] at h
    simp only [fillA]
    rw [Opd.agree fun t ht => h t (.inl ht)]
    cases (x.ev E').cells with
    | none => rfl
    | some vs =>
      simp only []
      split
      · exact fill_agree fun t ht => h t (.inr ht)
      · rfl

theorem aval_agree {E E' : Env} {g : Nat → Option HB} {op : AOp} (h : ∀ t ∈ op.reads, E t = E' t) : aval E g op = aval E' g op := by
  cases op <;> simp only [AOp.reads, List.mem_append] at h <;> simp only [aval] <;> first | rfl | skip
  case fn f as bs => rw [args_agree fun t ht => h t (.inl ht), args_agree fun t ht => h t (.inr ht)]
  case build zs ps => rw [fill_agree h]
  case slArr n sz x lo hi mx => rw [Opd.agree fun t ht => h t (.inl (.inl (.inl ht))), opt_agree fun t ht => h t (.inl (.inl (.inr ht))), opt_agree fun t ht => h t (.inl (.inr ht)), opt_agree fun t ht => h t (.inr ht)]
  case slSl sz x lo hi mx => rw [Opd.agree fun t ht => h t (.inl (.inl (.inl ht))), opt_agree fun t ht => h t (.inl (.inl (.inr ht))), opt_agree fun t ht => h t (.inl (.inr ht)), opt_agree fun t ht => h t (.inr ht)]
  case slStr x lo hi => rw [Opd.agree fun t ht => h t (.inl (.inl ht)), opt_agree fun t ht => h t (.inl (.inr ht)), opt_agree fun t ht => h t (.inr ht)]
  case pick c a b => rw [Opd.agree fun t ht => h t (.inl (.inl ht)), Opd.agree fun t ht => h t (.inl (.inr ht)), Opd.agree fun t ht => h t (.inr ht)]
  all_goals first
    | rw [Opd.agree h]
    | rw [Opd.agree fun t ht => h t (.inl ht), Opd.agree fun t ht => h t (.inr ht)]

theorem aval_free {E : Env} {g g' : Nat → Option HB} {op : AOp} (h : op.free = true) : aval E g op = aval E g' op := by
  cases op <;> first | rfl | cases h

theorem aval_grew {E : Env} {H H' : AHeap} (hg : Grew H H') {op : AOp} {r : AV} (h : aval E H.get op = some r) : aval E H'.get op = some r := by
  by_cases hf : op.free = true
  · rw [← aval_free (g := H.get) hf]; exact h
  · cases op <;> first | (exact absurd rfl hf) | (simp only [aval] at h; cases h; done) | skip
    case load ag n a =>
      simp only [aval] at h ⊢
      split at h
      · rename_i l off ha
        split at h
        · rename_i cs wr hb; rw [hg.at hb]; exact h
        · cases h
      · cases h
    case conv c x =>
      simp only [aval] at h ⊢
      generalize x.ev E = v at h
      cases c <;> cases v <;> simp only [convA] at h ⊢ <;> first | exact h | (cases h; done) | skip
      split at h
      · rename_i hc
        rw [if_pos hc]
        split at h
        · rename_i cs wr hb; rw [hg.at hb]; exact h
        · cases h
      · rename_i hc; rw [if_neg hc]; exact h
    case slArr n sz x lo hi mx =>
      simp only [aval] at h ⊢
      split at h
      · split at h
        · rename_i cs wr hb; rw [hg.at hb]; exact h
        · cases h
      · cases h
    case lookup z ok x k =>
      simp only [aval] at h ⊢
      split at h
      · split at h
        · rename_i es hb; rw [hg.at hb]; exact h
        · cases h
      · cases h

theorem aeff_agree {P : Program} {E E' : Env} {H : AHeap} {k : AV → AHeap → Prop} {op : AOp} (h : ∀ t ∈ op.reads, E t = E' t) : aeff P E H k op = aeff P E' H k op := by
  by_cases hq : op.quiet = true
  · have := aval_agree (g := H.get) h
    cases op <;> first | (cases hq; done) | (simp only [aeff]; rw [this])
  · cases op <;> first | (exact absurd rfl hq) | skip
    all_goals simp only [AOp.reads, List.mem_append] at h; simp only [aeff]
    case box x => rw [Opd.agree h]
    case bslice a b c d => rw [fill_agree h]
    case clear a b x => rw [Opd.agree h]
    case mapUpdate x y z => rw [Opd.agree fun t ht => h t (.inl (.inl ht)), Opd.agree fun t ht => h t (.inl (.inr ht)), Opd.agree fun t ht => h t (.inr ht)]
    case call f as => rw [args_agree h]
    case callV f as => rw [Opd.agree fun t ht => h t (.inl ht), args_agree fun t ht => h t (.inr ht)]
    all_goals rw [Opd.agree fun t ht => h t (.inl ht), Opd.agree fun t ht => h t (.inr ht)]

theorem gstep_agree {P : Program} {E E' : Env} {H : AHeap} {c : Prop} [Decidable c] {k : AV → Prop} {op : AOp} (h : ∀ t ∈ op.reads, E t = E' t) : gstep P E H c op k = gstep P E' H c op k := by
  have hv := aval_agree (g := H.get) h
  cases op
  case call f as =>
    simp only [AOp.reads] at h
    simp only [gstep]
    rw [args_agree h]
  case callV f as =>
    simp only [AOp.reads, List.mem_append] at h
    simp only [gstep]
    rw [Opd.agree fun t ht => h t (.inl ht), args_agree fun t ht => h t (.inr ht)]
  all_goals
    unfold gstep
    simp only []
    rw [hv]

/-! ### Plans -/

mutual
inductive STree where
  | node (qs : List Nat) (kids : SKids)
inductive SKids where
  | nil
  | cons (i : Nat) (free : Bool) (t : STree) (rest : SKids)
end
mutual
inductive ATree where
  | node (qs : List AOper) (kids : AKids)
inductive AKids where
  | nil
  | cons (free : Bool) (o : AOper) (t : ATree) (rest : AKids)
end
def SKids.ids : SKids → List Nat
  | .nil => []
  | .cons i _ _ rest => i :: rest.ids
def AKids.isNil : AKids → Bool
  | .nil => true
  | .cons _ _ _ _ => false

mutual
def fillT (cos : Nat → AOper) : STree → ATree
  | .node qs kids => .node (qs.map cos) (fillK cos kids)
def fillK (cos : Nat → AOper) : SKids → AKids
  | .nil => .nil
  | .cons i free t rest => .cons free (cos i) (fillT cos t) (fillK cos rest)
end

mutual
/-- Whatever the order: what is left to show. -/
def amix (P : Program) : ATree → Env → AHeap → (Env → AHeap → Prop) → Prop
  | .node qs kids, E, H, k => arun P qs E H fun E H => (kids.isNil = true → k E H) ∧ akids P kids E H k
def akids (P : Program) : AKids → Env → AHeap → (Env → AHeap → Prop) → Prop
  | .nil, _, _, _ => True
  | .cons free o t rest, E, H, k => arun P [o] E H (fun E' H' => (free = true ∨ Grew H H') ∧ amix P t E' H' k) ∧ akids P rest E H k
end

def AOper.readsG (o : AOper) : List Nat := o.op.reads ++ (match o.guard with | some (t, _) => [t] | none => [])
def AOper.ahead (o : AOper) : Bool := o.op.quiet || (match o.op with | .alloc _ => o.guard.isNone && o.dst.isSome | _ => false)

section
variable (n : Nat) (cos : Nat → AOper) (preds : Nat → List Nat)
def addOk (done : List Nat) (i : Nat) : Bool :=
  decide (i < n) && !done.contains i &&
  ((cos i).readsG.all fun t => (List.range n).all fun j => !((cos j).dst == some t) || (preds i).contains j) &&
  (match (cos i).dst with
   | none => true
   | some d => !(cos i).readsG.contains d && done.all fun j => !(cos j).readsG.contains d && !((cos j).dst == some d))
def okQ : List Nat → List Nat → Bool
  | _, [] => true
  | done, i :: qs => addOk n cos preds done i && (cos i).ahead && (preds i).all done.contains && okQ (done ++ [i]) qs
def coverK (done : List Nat) (kids : SKids) : Bool :=
  (List.range n).all (fun i => done.contains i || !(preds i).all done.contains || kids.ids.contains i) && (!kids.ids.isEmpty || (List.range n).all done.contains)
mutual
def okT (done : List Nat) : STree → Bool
  | .node qs kids => okQ n cos preds done qs && coverK n preds (done ++ qs) kids && okK (done ++ qs) kids
def okK (done : List Nat) : SKids → Bool
  | .nil => true
  | .cons i free t rest => addOk n cos preds done i && (!free || done.all fun j => (preds i).contains j || (cos j).op.free) && okT (done ++ [i]) t && okK done rest
end
end

/-- A plan: what is ready and can be done ahead is; then each operation that may come next. -/
def planQ (cos : Nat → AOper) (preds : Nat → List Nat) : Nat → List Nat → List Nat → List Nat
  | 0, _, _ => []
  | f + 1, all, done => match all.find? (fun i => !done.contains i && (cos i).ahead && (preds i).all done.contains) with
    | some i => i :: planQ cos preds f all (done ++ [i])
    | none => []
def kidsOf (cos : Nat → AOper) (preds : Nat → List Nat) (done : List Nat) (sub : List Nat → STree) : List Nat → SKids
  | [] => .nil
  | i :: rest => if !done.contains i && (preds i).all done.contains then .cons i (done.all fun j => (preds i).contains j || (cos j).op.free) (sub (done ++ [i])) (kidsOf cos preds done sub rest) else kidsOf cos preds done sub rest
def plan (cos : Nat → AOper) (preds : Nat → List Nat) (all : List Nat) : Nat → List Nat → STree
  | 0, _ => .node [] .nil
  | f + 1, done =>
    let qs := planQ cos preds all.length all done
    .node qs (kidsOf cos preds (done ++ qs) (plan cos preds all f) all)
end Go.Ab
