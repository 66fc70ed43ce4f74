/- Operations with effects: what they do to the abstract heap. -/
import Derived.Test.YtgjhjemmddojfaaAb7
set_option linter.unusedVariables false
set_option linter.unusedSimpArgs false
namespace Go.Ab

def AV.one : AV → Bool
  | .any | .undef | .agg _ | .tuple _ => false
  | _ => true

/-- What an operation, or a call, has come to. -/
def NextOk (P : Program) (Φ : Value → World → Prop) : Result Next → Prop
  | .ok (.value v) w' => Φ v w'
  | .ok .skip w' => Φ Go.undef w'
  | .ok (.enter f args) w' => Calls P f args w' (fun e w'' => ∃ v, e = .returned v ∧ Φ v w'')
  | _ => False

theorem NextOk.mono {P : Program} {Φ Ψ : Value → World → Prop} {r : Result Next} (h : NextOk P Φ r) (hm : ∀ v w, Φ v w → Ψ v w) : NextOk P Ψ r := by
  cases r with
  | ok n w =>
    cases n <;> simp only [NextOk] at h ⊢
    case value v => exact hm _ _ h
    case skip => exact hm _ _ h
    case enter f args => exact h.mono fun e w' ⟨v, he, hv⟩ => ⟨v, he, hm _ _ hv⟩
  | halt x w => exact h

/-- An outcome on abstract values. -/
def Out (F : Nat → Prop) (μ : Mu) (H : AHeap) (w : World) (k : AV → AHeap → Prop) (v : Value) (w' : World) : Prop :=
  ∃ (μ' : Mu) (r : AV) (H' : AHeap), k r H' ∧ H.next ≤ H'.next ∧ Mu.ext H.next μ μ' ∧ Sim F μ' H' w' ∧ R μ' r v ∧ Keeps F w w'

theorem Out.mono {F : Nat → Prop} {μ : Mu} {H : AHeap} {w : World} {k k' : AV → AHeap → Prop} {v : Value} {w' : World} (h : Out F μ H w k v w') (hk : ∀ r H', k r H' → k' r H') : Out F μ H w k' v w' := by
  obtain ⟨μ', r, H', h1, h2⟩ := h
  exact ⟨μ', r, H', hk _ _ h1, h2⟩

/-- A CONTRACT: called with such values over such a heap, the function returns a value and a heap as 'Q' says. -/
def ACalls (P : Program) (f : FuncId) (args : List AV) (H : AHeap) (Q : AV → AHeap → Prop) : Prop :=
  ∀ (F : Nat → Prop) (μ : Mu) (w : World) (vs : List Value), Sim F μ H w → RL μ args vs → NextOk P (Out F μ H w Q) ((callFunc f vs.toArray).run P w)

theorem ACalls.mono {P : Program} {f : FuncId} {args : List AV} {H : AHeap} {Q Q' : AV → AHeap → Prop} (h : ACalls P f args H Q) (hq : ∀ r H', Q r H' → Q' r H') : ACalls P f args H Q' :=
  fun F μ w vs hs ha => (h F μ w vs hs ha).mono fun _ _ ho => ho.mono hq

def byteCells (s : List UInt8) : List AV := s.map fun b => .int .u8 b.toNat

/-- The cells of what is appended or copied, and how many elements. -/
def srcCells (get : Nat → Option HB) (sz : Nat) : AV → Option (List AV × Nat)
  | .nilslice => some ([], 0)
  | .slice l o n _ sz' =>
    if sz = sz' then
      if n = 0 then some ([], 0) else
        match get l with
        | some (.row cs _) => if o + n * sz ≤ cs.length then some ((cs.drop o).take (n * sz), n) else none
        | _ => none
    else none
  | .str s => if sz = 1 then some (byteCells s, s.length) else none
  | _ => none

def mpSet (es : List (AV × AV)) (k v : AV) : Option (List (AV × AV)) :=
  match es with
  | [] => some [(k, v)]
  | (a, b) :: rest => match cellEq 0 k a with
    | some true => some ((k, v) :: rest)
    | some false => (mpSet rest k v).map ((a, b) :: ·)
    | none => none

/-- Appending to a slice of no capacity, or to the tail of a row that may be written. -/
def growA (H : AHeap) (os ys : List AV) (need bytes sz : Nat) (k : AV → AHeap → Prop) : Prop :=
  (2 * need + 192) * bytes ≤ 2 ^ 48 ∧ ys.all AV.one = true ∧ ∀ c, need ≤ c → k (.slice H.next 0 need c sz) (H.new (.row (os ++ ys) true))

def appendA (H : AHeap) (sz bytes : Nat) (x y : AV) (k : AV → AHeap → Prop) : Prop :=
  match srcCells H.get sz y with
  | none => False
  | some (ys, n) =>
    match x with
    | .nilslice => growA H [] ys n bytes sz k
    | .slice l o len cap sz' =>
      if sz = sz' then
        if cap = 0 then growA H [] ys n bytes sz k else
          match H.get l with
          | some (.row cs true) =>
            if o + len * sz = cs.length then growA (H.del l) (cs.drop o) ys (len + n) bytes sz k
            else if o + (len + n) * sz ≤ cs.length ∧ len + n ≤ cap ∧ ys.all AV.one = true then k (.slice l o (len + n) cap sz) (H.put l (.row (laid cs (o + len * sz) ys) true))
            else False
          | some (.row cs false) =>
            if cap < len + n ∧ o + len * sz ≤ cs.length then growA H ((cs.drop o).take (len * sz)) ys (len + n) bytes sz k else False
          | _ => False
      else False
    | _ => False

/-- What an operation does. -/
def aeff (P : Program) (E : Env) (H : AHeap) (k : AV → AHeap → Prop) (op : AOp) : Prop :=
  match op with
  | .alloc zs => k (.ptr H.next 0) (H.new (.row zs true))
  | .box x => match (x.ev E).cells with
    | some cs => k (.ptr H.next 0) (H.new (.row cs true))
    | none => False
  | .bslice sz len zs parts => match fillA E zs parts with
    | some cs => k (.slice H.next 0 len len sz) (H.new (.row cs true))
    | none => False
  | .store n x y => match x.ev E with
    | .ptr l off => match H.get l with
      | some (.row cs true) => match (y.ev E).cells with
        | some vs => if vs.length = n ∧ off + n ≤ cs.length ∧ vs.all AV.one = true then k .undef (H.put l (.row (laid cs off vs) true)) else False
        | none => False
      | _ => False
    | _ => False
  | .mkSlice sz bytes zs x y => match x.ev E, y.ev E with
    | .int _ n, .int _ c => if 0 ≤ n ∧ n ≤ c ∧ (bytes : Int) * c ≤ 2 ^ 48 ∧ c ≤ 9223372036854775807 then k (.slice H.next 0 n.toNat c.toNat sz) (H.new (.row (List.replicate c.toNat zs).flatten true)) else False
    | _, _ => False
  | .append sz bytes x y => appendA H sz bytes (x.ev E) (y.ev E) k
  | .copy sz x y => match x.ev E, y.ev E with
    | .slice l o n _ sz', y => if sz = sz' then
        match srcCells H.get sz y with
        | some (ys, m) => if Nat.min m n = 0 then k (.int .i64 0) H else
            match H.get l with
            | some (.row cs true) => if o + n * sz ≤ cs.length ∧ ys.all AV.one = true then k (.int .i64 (Nat.min m n)) (H.put l (.row (laid cs o (ys.take (Nat.min m n * sz))) true)) else False
            | _ => False
        | none => False
      else False
    | _, _ => False
  | .clear sz zs x => match x.ev E with
    | .nilslice => k .undef H
    | .slice l o n _ sz' => if n = 0 then k .undef H else if sz = sz' then
        match H.get l with
        | some (.row cs true) => if o + n * sz ≤ cs.length ∧ zs.length = sz ∧ zs.all AV.one = true then k .undef (H.put l (.row (laid cs o (List.replicate n zs).flatten) true)) else False
        | _ => False
      else False
    | _ => False
  | .makeMap => k (.map H.next) (H.new (.mp []))
  | .mapUpdate x y z => match x.ev E with
    | .map l => match H.get l with
      | some (.mp es) => match mpSet es (y.ev E) (z.ev E) with
        | some es' => k .undef (H.put l (.mp es'))
        | none => False
      | _ => False
    | _ => False
  | .call f args => ACalls P f (args.map (·.ev E)) H k
  | .callV g args => match g.ev E with
    | .func f first cap => ACalls P f (first ++ args.map (·.ev E) ++ cap) H k
    | _ => False
  | op => match aval E H.get op with
    | some r => k r H
    | none => False

section
variable {P : Program} {μ : Mu} {E : Env} {a : Act} {F : Nat → Prop} {H : AHeap} {w : World}

theorem one_cell {x : AV} {v : Value} (h : R μ x v) (ho : x.one = true) : v.oneCell' = true := by
  cases h <;> first | rfl | cases ho

theorem all_one {vs : List AV} {us : List Value} (h : RL μ vs us) (ho : vs.all AV.one = true) : ∀ u ∈ us, u.oneCell' = true := by
  intro u hu
  obtain ⟨i, hi, he⟩ := List.getElem_of_mem hu
  have hi' : i < vs.length := h.1 ▸ hi
  have := h.2 i vs[i] u (List.getElem?_eq_getElem hi') (by rw [List.getElem?_eq_getElem hi, he])
  exact one_cell this (List.all_eq_true.1 ho _ (List.getElem_mem hi'))

/-- A new block. -/
def Mu.plus (μ : Mu) (l : Nat) (li : LI) : Mu := fun l' => if l' = l then some li else μ l'

theorem Mu.plus_ext (μ : Mu) (n : Nat) (li : LI) : Mu.ext n μ (μ.plus n li) := fun l hl => by unfold Mu.plus; rw [if_neg (by omega)]

theorem push_get (h : Array Obj) (o : Obj) (b : Nat) (hb : b < h.size) : (h.push o)[b]? = h[b]? := by
  rw [Array.getElem?_push, if_neg (by omega)]

theorem keeps_push (hf : ∀ b, w.heap.size ≤ b → F b) (o : Obj) (n : Nat) : Keeps F w { w with heap := w.heap.push o, drawn := n } :=
  ⟨rfl, rfl, rfl, by simp, fun b hb _ => push_get _ _ _ hb⟩

theorem Sim.push (hs : Sim F μ H w) {cs : List AV} {c : Array Value} {e : TypeId} (hl : cs.length ≤ c.size) (hr : ∀ (i : Nat) (a : AV), cs[i]? = some a → ∃ v, c[i]? = some v ∧ R μ a v) (n : Nat) :
    Sim F (μ.plus H.next ⟨w.heap.size, 0, c.size⟩) (H.new (.row cs true)) { w with heap := w.heap.push (.cells c e), drawn := n } := by
  have lift : ∀ {a : AV} {v : Value}, R μ a v → R (μ.plus H.next ⟨w.heap.size, 0, c.size⟩) a v := fun h => hs.lift (Mu.plus_ext _ _ _) h
  have hnew : ∀ l, l ≠ H.next → μ.plus H.next ⟨w.heap.size, 0, c.size⟩ l = μ l := fun l h => by unfold Mu.plus; rw [if_neg h]
  have hat : μ.plus H.next ⟨w.heap.size, 0, c.size⟩ H.next = some ⟨w.heap.size, 0, c.size⟩ := by unfold Mu.plus; rw [if_pos rfl]
  refine ⟨?_, ?_, ?_, ?_, ?_, ?_⟩
  · intro l li h
    by_cases hl' : l = H.next
    · subst hl'
      rw [hat] at h
      cases h
      exact ⟨by rw [AHeap.new_next]; omega, by simp⟩
    · rw [hnew l hl'] at h
      obtain ⟨h1, h2⟩ := hs.dom l li h
      exact ⟨by rw [AHeap.new_next]; omega, by simp; omega⟩
  · intro l li cs' wr hg hm
    rw [AHeap.new_get] at hg
    by_cases hl' : l = H.next
    · subst hl'
      rw [if_pos rfl] at hg
      cases hg
      rw [hat] at hm
      cases hm
      refine ⟨c, e, 0, 0, by simp, by simp, hl, ?_, ?_⟩
      · intro i a hi
        obtain ⟨v, hv, hR⟩ := hr i a hi
        exact ⟨v, by simpa using hv, lift hR⟩
      · intro _ o _ _; omega
    · rw [if_neg hl'] at hg
      rw [hnew l hl'] at hm
      obtain ⟨c', e', lo, hi, h1, h2, h3, h4, h5⟩ := hs.row l li cs' wr hg hm
      refine ⟨c', e', lo, hi, ?_, h2, h3, ?_, h5⟩
      · rw [show ({ w with heap := w.heap.push (.cells c e), drawn := n } : World).heap = w.heap.push (.cells c e) from rfl, push_get _ _ _ (hs.dom l li hm).2]; exact h1
      · intro i a hi'
        obtain ⟨v, hv, hR⟩ := h4 i a hi'
        exact ⟨v, hv, lift hR⟩
  · intro l li es hg hm
    rw [AHeap.new_get] at hg
    by_cases hl' : l = H.next
    · subst hl'; rw [if_pos rfl] at hg; cases hg
    · rw [if_neg hl'] at hg
      rw [hnew l hl'] at hm
      obtain ⟨ms, ck, h1, h2, h3⟩ := hs.mp l li es hg hm
      refine ⟨ms, ck, ?_, h2, fun i e m he hm' => ⟨lift (h3 i e m he hm').1, lift (h3 i e m he hm').2⟩⟩
      rw [show ({ w with heap := w.heap.push (.cells c e), drawn := n } : World).heap = w.heap.push (.cells c e) from rfl, push_get _ _ _ (hs.dom l li hm).2]; exact h1
  · intro l l' b b' li li' hne hg hw hg' hm hm'
    rw [AHeap.new_get] at hg hg'
    by_cases h1 : l = H.next
    · subst h1
      rw [hat] at hm
      cases hm
      rw [if_neg (Ne.symm hne)] at hg'
      rw [hnew l' (Ne.symm hne)] at hm'
      have := (hs.dom l' li' hm').2
      simp only [ne_eq]; omega
    · rw [if_neg h1] at hg
      rw [hnew l h1] at hm
      by_cases h2 : l' = H.next
      · subst h2
        rw [hat] at hm'
        cases hm'
        have := (hs.dom l li hm).2
        simp only [ne_eq]; omega
      · rw [if_neg h2] at hg'
        rw [hnew l' h2] at hm'
        exact hs.sep l l' b b' li li' hne hg hw hg' hm hm'
  · intro l b li hg hw hm
    rw [AHeap.new_get] at hg
    by_cases h1 : l = H.next
    · subst h1
      rw [hat] at hm
      cases hm
      exact hs.fresh _ (Nat.le_refl _)
    · rw [if_neg h1] at hg
      rw [hnew l h1] at hm
      exact hs.may l b li hg hw hm
  · intro b hb
    exact hs.fresh b (by simp at hb; omega)

/-- A new map. -/
theorem Sim.pushMap (hs : Sim F μ H w) : Sim F (μ.plus H.next ⟨w.heap.size, 0, 0⟩) (H.new (.mp [])) { w with heap := w.heap.push (.map #[] 0) } := by
  have lift : ∀ {a : AV} {v : Value}, R μ a v → R (μ.plus H.next ⟨w.heap.size, 0, 0⟩) a v := fun h => hs.lift (Mu.plus_ext _ _ _) h
  have hnew : ∀ l, l ≠ H.next → μ.plus H.next ⟨w.heap.size, 0, 0⟩ l = μ l := fun l h => by unfold Mu.plus; rw [if_neg h]
  have hat : μ.plus H.next ⟨w.heap.size, 0, 0⟩ H.next = some ⟨w.heap.size, 0, 0⟩ := by unfold Mu.plus; rw [if_pos rfl]
  refine ⟨?_, ?_, ?_, ?_, ?_, ?_⟩
  · intro l li h
    by_cases hl' : l = H.next
    · subst hl'
      rw [hat] at h
      cases h
      exact ⟨by rw [AHeap.new_next]; omega, by simp⟩
    · rw [hnew l hl'] at h
      obtain ⟨h1, h2⟩ := hs.dom l li h
      exact ⟨by rw [AHeap.new_next]; omega, by simp; omega⟩
  · intro l li cs' wr hg hm
    rw [AHeap.new_get] at hg
    by_cases hl' : l = H.next
    · subst hl'; rw [if_pos rfl] at hg; cases hg
    · rw [if_neg hl'] at hg
      rw [hnew l hl'] at hm
      obtain ⟨c', e', lo, hi, h1, h2, h3, h4, h5⟩ := hs.row l li cs' wr hg hm
      refine ⟨c', e', lo, hi, ?_, h2, h3, ?_, h5⟩
      · rw [show ({ w with heap := w.heap.push (.map #[] 0) } : World).heap = w.heap.push (.map #[] 0) from rfl, push_get _ _ _ (hs.dom l li hm).2]; exact h1
      · intro i a hi'
        obtain ⟨v, hv, hR⟩ := h4 i a hi'
        exact ⟨v, hv, lift hR⟩
  · intro l li es hg hm
    rw [AHeap.new_get] at hg
    by_cases hl' : l = H.next
    · subst hl'
      rw [if_pos rfl] at hg
      cases hg
      rw [hat] at hm
      cases hm
      exact ⟨#[], 0, by simp, rfl, fun i e m he => by simp at he⟩
    · rw [if_neg hl'] at hg
      rw [hnew l hl'] at hm
      obtain ⟨ms, ck, h1, h2, h3⟩ := hs.mp l li es hg hm
      refine ⟨ms, ck, ?_, h2, fun i e m he hm' => ⟨lift (h3 i e m he hm').1, lift (h3 i e m he hm').2⟩⟩
      rw [show ({ w with heap := w.heap.push (.map #[] 0) } : World).heap = w.heap.push (.map #[] 0) from rfl, push_get _ _ _ (hs.dom l li hm).2]; exact h1
  · intro l l' b b' li li' hne hg hw hg' hm hm'
    rw [AHeap.new_get] at hg hg'
    by_cases h1 : l = H.next
    · subst h1
      rw [hat] at hm
      cases hm
      rw [if_neg (Ne.symm hne)] at hg'
      rw [hnew l' (Ne.symm hne)] at hm'
      have := (hs.dom l' li' hm').2
      simp only [ne_eq]; omega
    · rw [if_neg h1] at hg
      rw [hnew l h1] at hm
      by_cases h2 : l' = H.next
      · subst h2
        rw [hat] at hm'
        cases hm'
        have := (hs.dom l li hm).2
        simp only [ne_eq]; omega
      · rw [if_neg h2] at hg'
        rw [hnew l' h2] at hm'
        exact hs.sep l l' b b' li li' hne hg hw hg' hm hm'
  · intro l b li hg hw hm
    rw [AHeap.new_get] at hg
    by_cases h1 : l = H.next
    · subst h1
      rw [hat] at hm
      cases hm
      exact hs.fresh _ (Nat.le_refl _)
    · rw [if_neg h1] at hg
      rw [hnew l h1] at hm
      exact hs.may l b li hg hw hm
  · intro b hb
    exact hs.fresh b (by simp at hb; omega)

/-- Cells stored, one behind the other. -/
theorem store_run {b o : Nat} {e : TypeId} {lo hi : Nat} : ∀ (vs : List Value) (i : Nat) (c : Array Value) (w : World), w.heap[b]? = some (.cells c e (lo, hi)) → o + i + vs.length ≤ c.size →
    (∀ j, o + i ≤ j → j < o + i + vs.length → ¬ (lo ≤ j ∧ j < hi)) → (∀ v ∈ vs, v.oneCell' = true) →
    ∃ c' : Array Value, (storeCells ⟨b, o, none⟩ vs i).run P w = .ok () { w with heap := w.heap.setIfInBounds b (.cells c' e (lo, hi)) } ∧ c'.toList = c.toList.take (o + i) ++ vs ++ c.toList.drop (o + i + vs.length)
  | [], i, c, w, hb, _, _, _ => by
    refine ⟨c, ?_, by simp⟩
    have hlt : b < w.heap.size := by
      rcases Nat.lt_or_ge b w.heap.size with h | h
      · exact h
      · rw [Array.getElem?_eq_none h] at hb; cases hb
    have : w.heap.setIfInBounds b (.cells c e (lo, hi)) = w.heap := by
      apply Array.ext'
      rw [Array.toList_setIfInBounds]
      apply List.ext_getElem?
      intro j
      rw [List.getElem?_set]
      split
      · rename_i hj; subst hj
        simp only [Array.length_toList, hlt, if_true]
        rw [Array.getElem?_toList, hb]
      · rfl
    rw [this]; rfl
  | v :: vs, i, c, w, hb, hsz, hf, h1 => by
    have hlt : b < w.heap.size := by
      rcases Nat.lt_or_ge b w.heap.size with h | h
      · exact h
      · rw [Array.getElem?_eq_none h] at hb; cases hb
    simp only [List.length_cons] at hsz hf
    have hcell : w.cell? ⟨b, o + i, none⟩ = some (c[o + i]'(by omega)) := by
      rw [cell_of hb, Array.getElem?_eq_getElem (by omega)]
    have hfr : w.frozen? ⟨b, o + i, none⟩ = false := by
      rw [frozen_of hb]
      have := hf (o + i) (by omega) (by omega)
      simp only [Bool.and_eq_false_iff, decide_eq_false_iff_not]
      omega
    have hset : w.setCell ⟨b, o + i, none⟩ v = { w with heap := w.heap.setIfInBounds b (.cells (c.setIfInBounds (o + i) v) e (lo, hi)) } := by
      simp only [World.setCell]
      congr 1
      apply Array.ext_getElem?
      intro j
      rw [Array.getElem?_modify, Array.getElem?_setIfInBounds]
      by_cases hj : b = j
      · subst hj
        have hv : w.heap[b]'hlt = .cells c e (lo, hi) := by
          rw [Array.getElem?_eq_getElem hlt] at hb
          exact Option.some.inj hb
        simp [hlt, hv]
      · simp [hj]
    have hst : (store ((⟨b, o, none⟩ : Addr).add i) v).run P w = .ok () (w.setCell ⟨b, o + i, none⟩ v) := by
      rw [addr_add, run_store P w _ v _ (h1 v (by simp))]
      simp [hcell, hfr]
    rw [hset] at hst
    have hb' : ({ w with heap := w.heap.setIfInBounds b (.cells (c.setIfInBounds (o + i) v) e (lo, hi)) } : World).heap[b]? = some (.cells (c.setIfInBounds (o + i) v) e (lo, hi)) := by
      simp [hlt]
    obtain ⟨c', hr, hc'⟩ := store_run (o := o) vs (i + 1) (c.setIfInBounds (o + i) v) _ hb' (by simp only [Array.size_setIfInBounds]; omega) (fun j h h' => hf j (by omega) (by omega)) (fun u hu => h1 u (by simp [hu]))
    refine ⟨c', ?_, ?_⟩
    · simp only [storeCells]
      rw [bind_ok hst, hr]
      simp
    · rw [hc']
      simp only [Array.toList_setIfInBounds, List.length_cons]
      apply List.ext_getElem?
      intro j
      simp only [List.getElem?_append, List.getElem?_take, List.getElem?_drop, List.length_append, List.length_take, List.length_set, List.getElem?_set, Array.length_toList]
      have m1 : min (o + (i + 1)) c.size = o + i + 1 := by omega
      have m2 : min (o + i) c.size = o + i := by omega
      rw [m1, m2]
      by_cases j1 : j < o + i
      · simp [j1, show j < o + i + 1 + vs.length by omega, show j < o + i + 1 by omega, show j < o + (i + 1) by omega, show ¬ o + i = j by omega, show j < o + i + (vs.length + 1) by omega]
      · by_cases j2 : j = o + i
        · subst j2
          simp [show o + i < o + i + 1 + vs.length by omega, show o + i < o + (i + 1) by omega, show o + i < c.size by omega]
        · by_cases j3 : j < o + i + 1 + vs.length
          · have e1 : j - (o + i) = (j - (o + i + 1)) + 1 := by omega
            simp [j1, j3, show ¬ j < o + i + 1 by omega, show j < o + i + (vs.length + 1) by omega, e1]
          · simp [j1, j3, show ¬ j < o + i + (vs.length + 1) by omega, show ¬ o + i = o + (i + 1) + vs.length + (j - (o + i + 1 + vs.length)) by omega]
            congr 1
            omega

/-- What a row's cells become. -/
theorem Sim.write (hs : Sim F μ H w) {l : Nat} {li : LI} {cs ds : List AV} {c c' : Array Value} {e : TypeId} {lo hi : Nat} (hg : H.get l = some (.row cs true)) (hm : μ l = some li)
    (hb : w.heap[li.blk]? = some (.cells c e (lo, hi))) (hsz : c'.size = c.size) (hl : ds.length ≤ li.lim) (hr : ∀ (i : Nat) (a : AV), ds[i]? = some a → ∃ v, c'[li.base + i]? = some v ∧ R μ a v) :
    Sim F μ (H.put l (.row ds true)) { w with heap := w.heap.setIfInBounds li.blk (.cells c' e (lo, hi)) } ∧ Keeps F w { w with heap := w.heap.setIfInBounds li.blk (.cells c' e (lo, hi)) } := by
  have hln : l < H.next := H.lt_of_get hg
  have hblk := (hs.dom l li hm).2
  have hother : ∀ b, b ≠ li.blk → (w.heap.setIfInBounds li.blk (.cells c' e (lo, hi)))[b]? = w.heap[b]? := fun b h => by
    rw [Array.getElem?_setIfInBounds, if_neg (Ne.symm h)]
  have hself : (w.heap.setIfInBounds li.blk (.cells c' e (lo, hi)))[li.blk]? = some (.cells c' e (lo, hi)) := by simp [hblk]
  obtain ⟨c0, e0, lo0, hi0, g1, g2, g3, g4, g5⟩ := hs.row l li cs true hg hm
  rw [hb] at g1
  cases g1
  have hget : ∀ l', l' ≠ l → (H.put l (.row ds true)).get l' = H.get l' := fun l' h => by rw [AHeap.put_get, if_neg (by omega)]
  have hgets : (H.put l (.row ds true)).get l = some (.row ds true) := by rw [AHeap.put_get, if_pos ⟨rfl, hln⟩]
  refine ⟨⟨?_, ?_, ?_, ?_, ?_, ?_⟩, ?_⟩
  · intro l' li' h
    have := hs.dom l' li' h
    exact ⟨this.1, by simpa using this.2⟩
  · intro l' li' cs' wr hg' hm'
    by_cases h : l' = l
    · subst h
      rw [hgets] at hg'
      cases hg'
      rw [hm] at hm'
      cases hm'
      exact ⟨c', e, lo, hi, hself, by omega, hl, hr, g5⟩
    · rw [hget l' h] at hg'
      obtain ⟨c1, e1, lo1, hi1, k1, k2, k3, k4, k5⟩ := hs.row l' li' cs' wr hg' hm'
      have hne : li.blk ≠ li'.blk := hs.sep l l' _ _ li li' (Ne.symm h) hg rfl hg' hm hm'
      exact ⟨c1, e1, lo1, hi1, by show (w.heap.setIfInBounds li.blk _)[li'.blk]? = _; rw [hother _ (Ne.symm hne)]; exact k1, k2, k3, k4, k5⟩
  · intro l' li' es hg' hm'
    by_cases h : l' = l
    · subst h; rw [hgets] at hg'; cases hg'
    · rw [hget l' h] at hg'
      obtain ⟨ms, ck, k1, k2, k3⟩ := hs.mp l' li' es hg' hm'
      have hne : li.blk ≠ li'.blk := hs.sep l l' _ _ li li' (Ne.symm h) hg rfl hg' hm hm'
      exact ⟨ms, ck, by show (w.heap.setIfInBounds li.blk _)[li'.blk]? = _; rw [hother _ (Ne.symm hne)]; exact k1, k2, k3⟩
  · intro l1 l2 b1 b2 li1 li2 hne h1 hw h2 hm1 hm2
    have key : ∀ l' b', (H.put l (.row ds true)).get l' = some b' → ∃ b'', H.get l' = some b'' ∧ (b'.wr = true → b''.wr = true) := by
      intro l' b' h'
      by_cases h : l' = l
      · subst h
        exact ⟨_, hg, fun _ => rfl⟩
      · rw [hget l' h] at h'
        exact ⟨b', h', id⟩
    obtain ⟨c1, k1, k2⟩ := key l1 b1 h1
    obtain ⟨c2, k3, _⟩ := key l2 b2 h2
    exact hs.sep l1 l2 c1 c2 li1 li2 hne k1 (k2 hw) k3 hm1 hm2
  · intro l1 b1 li1 h1 hw hm1
    by_cases h : l1 = l
    · subst h
      exact hs.may l1 _ li1 hg rfl hm1
    · rw [hget l1 h] at h1
      exact hs.may l1 b1 li1 h1 hw hm1
  · intro b hb'
    exact hs.fresh b (by simpa using hb')
  · exact ⟨rfl, rfl, rfl, by simp, fun b _ hF => hother b (fun h => hF (h ▸ hs.may l _ li hg rfl hm))⟩

end
end Go.Ab
