/- Symbolic execution: quiet operations, all of them, and facts about values that stay opaque. -/
import Derived.Test.YtgjhjemmddojfaaSx3
set_option linter.unusedVariables false
set_option linter.unusedSimpArgs false
namespace Go.Ab

/-- What is asked of opaque values. -/
inductive RK where
  | len (x : SV)
  | lenStr (x : SV)
  | ia (sz : Nat) (x i : SV)
  | ld (ag : Bool) (n : Nat) (x : SV)
  | ixStr (x i : SV)
  | slSl (sz : Nat) (x : SV) (lo hi : Option SV)
  | slStr (x : SV) (lo hi : Option SV)
  | nilS (x : SV)
  | call (f : FuncId) (xs : List SV)

def optBeq : Option SV → Option SV → Bool
  | none, none => true
  | some a, some b => a.beq b
  | _, _ => false
theorem optBeq_eq {a b : Option SV} (h : optBeq a b = true) : a = b := by
  cases a <;> cases b <;> simp only [optBeq, Bool.false_eq_true] at h
  · rfl
  · rw [SV.eq_of_beq h]
def RK.beq : RK → RK → Bool
  | .len x, .len x' => x.beq x'
  | .lenStr x, .lenStr x' => x.beq x'
  | .ia z x i, .ia z' x' i' => z == z' && (x.beq x' && i.beq i')
  | .ld g n x, .ld g' n' x' => g == g' && (n == n' && x.beq x')
  | .ixStr x i, .ixStr x' i' => x.beq x' && i.beq i'
  | .slSl z x a b, .slSl z' x' a' b' => z == z' && (x.beq x' && (optBeq a a' && optBeq b b'))
  | .slStr x a b, .slStr x' a' b' => x.beq x' && (optBeq a a' && optBeq b b')
  | .nilS x, .nilS x' => x.beq x'
  | .call f xs, .call f' xs' => f == f' && SV.beqL xs xs'
  | _, _ => false
theorem RK.eq_of_beq {a b : RK} (h : a.beq b = true) : a = b := by
  cases a <;> cases b <;> simp only [RK.beq, Bool.and_eq_true, beq_iff_eq, Bool.false_eq_true] at h
  · rw [SV.eq_of_beq h]
  · rw [SV.eq_of_beq h]
  · rw [h.1, SV.eq_of_beq h.2.1, SV.eq_of_beq h.2.2]
  · rw [h.1, h.2.1, SV.eq_of_beq h.2.2]
  · rw [SV.eq_of_beq h.1, SV.eq_of_beq h.2]
  · rw [h.1, SV.eq_of_beq h.2.1, optBeq_eq h.2.2.1, optBeq_eq h.2.2.2]
  · rw [SV.eq_of_beq h.1, optBeq_eq h.2.1, optBeq_eq h.2.2]
  · rw [SV.eq_of_beq h]
  · rw [h.1, SV.eq_of_beqL h.2]

def findR (k : RK) : List (RK × SV) → Option SV
  | [] => none
  | (k', v) :: rest => match k.beq k' with
    | true => some v
    | false => findR k rest
theorem findR_mem {k : RK} {v : SV} : ∀ {l : List (RK × SV)}, findR k l = some v → (k, v) ∈ l
  | [], h => by cases h
  | (k', w) :: rest, h => by
    unfold findR at h
    split at h
    · rename_i hb; cases h; rw [RK.eq_of_beq hb]; simp
    · exact List.mem_cons_of_mem _ (findR_mem h)

/-- Locations below stay as they are, but for some that may be written. -/
def Kept (fl : Nat) (ls : List (Nat × Nat)) (H H' : AHeap) : Prop := H.next ≤ H'.next ∧ ∀ l, l < H.next → (∀ j b, fl ≤ j → ls[j]? ≠ some (l, b)) → H'.get l = H.get l
theorem Kept.refl (fl : Nat) (ls : List (Nat × Nat)) (H : AHeap) : Kept fl ls H H := ⟨Nat.le_refl _, fun _ _ _ => rfl⟩
theorem Kept.grew {fl : Nat} {ls : List (Nat × Nat)} {H H' : AHeap} (h : Kept fl ls H H') (hf : ls.length ≤ fl) : Grew H H' :=
  ⟨h.1, fun l hl => h.2 l hl fun j b hj e => by rw [List.getElem?_eq_none (by omega)] at e; cases e⟩
theorem Kept.of_grew {fl : Nat} {ls : List (Nat × Nat)} {H H' : AHeap} (h : Grew H H') : Kept fl ls H H' := ⟨h.next, fun l hl _ => h.get l hl⟩

def DO (vs : List AV) (ls : List (Nat × Nat)) : Option SV → Option AV → Prop
  | none, b => b = none
  | some x, b => ∃ a, b = some a ∧ D vs ls x a

/-- Where a run begins: its atoms, its rows, what is known. -/
structure Cx where
  P : Program
  ρ : Nat → AV
  φ : Nat → List AV → AV
  vs : List AV
  ls : List (Nat × Nat)
  H : AHeap
  fl : Nat
  ru : List (RK × SV)

def RuleOk (c : Cx) : RK → SV → Prop
  | .len x, v => ∃ a r, D c.vs c.ls x a ∧ D c.vs c.ls v r ∧ ∀ E get, aval E get (.len (.const a)) = some r
  | .lenStr x, v => ∃ a r, D c.vs c.ls x a ∧ D c.vs c.ls v r ∧ ∀ E get, aval E get (.lenStr (.const a)) = some r
  | .ia z x i, v => ∃ a b r, D c.vs c.ls x a ∧ D c.vs c.ls i b ∧ D c.vs c.ls v r ∧ ∀ E get, aval E get (.iaSl z (.const a) (.const b)) = some r
  | .ld g n x, v => ∃ a r, D c.vs c.ls x a ∧ D c.vs c.ls v r ∧ ∀ E H, Kept c.fl c.ls c.H H → aval E H.get (.load g n (.const a)) = some r
  | .ixStr x i, v => ∃ a b r, D c.vs c.ls x a ∧ D c.vs c.ls i b ∧ D c.vs c.ls v r ∧ ∀ E get, aval E get (.ixStr (.const a) (.const b)) = some r
  | .slSl z x lo hi, v => ∃ a b d r, D c.vs c.ls x a ∧ DO c.vs c.ls lo b ∧ DO c.vs c.ls hi d ∧ D c.vs c.ls v r ∧ ∀ E get, aval E get (.slSl z (.const a) (b.map Opd.const) (d.map Opd.const) none) = some r
  | .slStr x lo hi, v => ∃ a b d r, D c.vs c.ls x a ∧ DO c.vs c.ls lo b ∧ DO c.vs c.ls hi d ∧ D c.vs c.ls v r ∧ ∀ E get, aval E get (.slStr (.const a) (b.map Opd.const) (d.map Opd.const)) = some r
  | .nilS x, v => ∃ a r, D c.vs c.ls x a ∧ D c.vs c.ls v r ∧ ∀ E get, aval E get (.eqNilS false (.const a) (.const .nilslice)) = some r
  | .call f xs, v => ∃ as r, DL c.vs c.ls xs as ∧ D c.vs c.ls v r ∧ ∀ H, Kept c.fl c.ls c.H H → APure c.P f as H r

/-- A world on the way. -/
structure In (c : Cx) (s : St) (vs : List AV) (ls : List (Nat × Nat)) (H : AHeap) : Prop where
  ok : Okk c.ρ c.φ s vs ls H
  lev : LeL c.vs vs
  lel : LeL c.ls ls
  kept : Kept c.fl c.ls c.H H
  new : ∀ j l b, c.ls.length ≤ j → ls[j]? = some (l, b) → c.H.next ≤ l
  rules : ∀ k v, (k, v) ∈ c.ru → RuleOk c k v

def absC : AV → Option SV
  | .agg cs => if cs.all litOk then some (.agg (cs.map .lit)) else none
  | .func f [] [] => some (.fn f [] [])
  | a => if litOk a then some (.lit a) else none
def sev (env : List (Nat × SV)) : Opd → Option SV
  | .tmp t => findA t env
  | .const a => absC a
theorem DL_lits {vs : List AV} {ls : List (Nat × Nat)} : ∀ {cs : List AV}, cs.all litOk = true → DL vs ls (cs.map .lit) cs
  | [], _ => by simp only [List.map_nil, DL]
  | a :: cs, h => by
    simp only [List.all_cons, Bool.and_eq_true] at h
    simp only [List.map_cons, DL]
    exact ⟨a, cs, rfl, by unfold D; exact ⟨rfl, h.1⟩, DL_lits h.2⟩
theorem absC_of {vs : List AV} {ls : List (Nat × Nat)} {a : AV} {v : SV} (h : absC a = some v) : D vs ls v a := by
  have lit : (if litOk a then some (SV.lit a) else none) = some v → D vs ls v a := by
    intro h
    split at h
    · rename_i ho; cases h; unfold D; exact ⟨rfl, ho⟩
    · cases h
  unfold absC at h
  split at h
  · split at h
    · rename_i ho; cases h; simp only [D]; exact ⟨_, rfl, DL_lits ho⟩
    · cases h
  · cases h; simp only [D, DL]; exact ⟨[], [], rfl, rfl, rfl⟩
  · exact lit h
theorem sev_of {env : List (Nat × SV)} {vs : List AV} {ls : List (Nat × Nat)} {E : Env} (he : EnvOk env vs ls E) {x : Opd} {v : SV} (h : sev env x = some v) : D vs ls v (x.ev E) := by
  cases x with
  | tmp t => exact he t v h
  | const a => exact absC_of h
def sevL (env : List (Nat × SV)) : List Opd → Option (List SV)
  | [] => some []
  | x :: xs => match sev env x, sevL env xs with
    | some v, some vs => some (v :: vs)
    | _, _ => none
theorem sevL_of {env : List (Nat × SV)} {vs : List AV} {ls : List (Nat × Nat)} {E : Env} (he : EnvOk env vs ls E) : ∀ {xs : List Opd} {ws : List SV}, sevL env xs = some ws → DL vs ls ws (xs.map (·.ev E))
  | [], ws, h => by cases h; simp only [List.map_nil, DL]
  | x :: xs, ws, h => by
    unfold sevL at h
    split at h
    · rename_i v us h1 h2
      cases h
      simp only [List.map_cons, DL]
      exact ⟨_, _, rfl, sev_of he h1, sevL_of he h2⟩
    · cases h
def sevO (env : List (Nat × SV)) : Option Opd → Option (Option SV)
  | none => some none
  | some x => (sev env x).map some
theorem sevO_of {env : List (Nat × SV)} {vs : List AV} {ls : List (Nat × Nat)} {E : Env} (he : EnvOk env vs ls E) {x : Option Opd} {w : Option SV} (h : sevO env x = some w) : DO vs ls w (x.map (·.ev E)) := by
  cases x with
  | none => cases h; rfl
  | some x =>
    simp only [sevO, Option.map_eq_some_iff] at h
    obtain ⟨v, hv, rfl⟩ := h
    exact ⟨_, rfl, sev_of he hv⟩

theorem DL.len {vs : List AV} {ls : List (Nat × Nat)} : ∀ {x : List SV} {a : List AV}, DL vs ls x a → x.length = a.length
  | [], _, h => by simp only [DL] at h; subst h; rfl
  | c :: cs, _, h => by simp only [DL] at h; obtain ⟨b, bs, rfl, _, h⟩ := h; simp [DL.len h]
theorem DL.get {vs : List AV} {ls : List (Nat × Nat)} : ∀ {x : List SV} {a : List AV} {i : Nat} {v : SV}, DL vs ls x a → x[i]? = some v → ∃ r, a[i]? = some r ∧ D vs ls v r
  | [], _, _, _, _, e => by simp at e
  | c :: cs, _, 0, v, h, e => by simp only [DL] at h; obtain ⟨b, bs, rfl, h1, _⟩ := h; simp at e; subst e; exact ⟨b, rfl, h1⟩
  | c :: cs, _, i + 1, v, h, e => by
    simp only [DL] at h; obtain ⟨b, bs, rfl, _, h2⟩ := h
    simpa using DL.get h2 (by simpa using e)
theorem DL.drop {vs : List AV} {ls : List (Nat × Nat)} : ∀ {x : List SV} {a : List AV} (n : Nat), DL vs ls x a → DL vs ls (x.drop n) (a.drop n)
  | x, a, 0, h => by simpa using h
  | [], _, n + 1, h => by simp only [DL] at h; subst h; simp [DL]
  | c :: cs, _, n + 1, h => by
    simp only [DL] at h; obtain ⟨b, bs, rfl, _, h2⟩ := h
    simpa using DL.drop n h2
theorem DL.take {vs : List AV} {ls : List (Nat × Nat)} : ∀ {x : List SV} {a : List AV} (n : Nat), DL vs ls x a → DL vs ls (x.take n) (a.take n)
  | x, a, 0, h => by simp [DL]
  | [], _, n + 1, h => by simp only [DL] at h; subst h; simp [DL]
  | c :: cs, _, n + 1, h => by
    simp only [DL] at h; obtain ⟨b, bs, rfl, h1, h2⟩ := h
    simp only [List.take_succ_cons, DL]
    exact ⟨b, _, rfl, h1, DL.take n h2⟩
theorem DL.append {vs : List AV} {ls : List (Nat × Nat)} : ∀ {x y : List SV} {a b : List AV}, DL vs ls x a → DL vs ls y b → DL vs ls (x ++ y) (a ++ b)
  | [], y, _, b, h, k => by simp only [DL] at h; subst h; simpa using k
  | c :: cs, y, _, b, h, k => by
    simp only [DL] at h; obtain ⟨d, ds, rfl, h1, h2⟩ := h
    simp only [List.cons_append, DL]
    exact ⟨d, _, rfl, h1, DL.append h2 k⟩

def partS (ag : Bool) (n off : Nat) (cs : List SV) : Option SV :=
  match ag with
  | true => if off + n ≤ cs.length then some (.agg ((cs.drop off).take n)) else none
  | false => cs[off]?
theorem partS_of {vs : List AV} {ls : List (Nat × Nat)} {ag : Bool} {n off : Nat} {cs : List SV} {ds : List AV} {v : SV} (hd : DL vs ls cs ds) (h : partS ag n off cs = some v) : ∃ r, part ag n off ds = some r ∧ D vs ls v r := by
  unfold partS at h
  unfold part
  split at h
  · split at h
    · rename_i hl
      cases h
      rw [if_pos rfl, if_pos (by rw [← hd.len]; exact hl)]
      exact ⟨_, rfl, by simp only [D]; exact ⟨_, rfl, (hd.drop off).take n⟩⟩
    · cases h
  · rw [if_neg (by simp)]; exact hd.get h

theorem part_win {ag : Bool} {n off : Nat} {pre ds post : List AV} {r : AV} (h : part ag n off ds = some r) : part ag n (pre.length + off) (pre ++ (ds ++ post)) = some r := by
  unfold part at h ⊢
  cases ag with
  | true =>
    simp only [if_true] at h ⊢
    split at h
    · rename_i hl
      rw [if_pos (by simp; omega)]
      rw [← h]
      congr 2
      rw [← List.drop_drop, List.drop_left, List.drop_append_of_le_length (by omega), List.take_append_of_le_length (by simp; omega)]
    · cases h
  | false =>
    simp only [Bool.false_eq_true, if_false] at h ⊢
    have hl : off < ds.length := by
      rcases Nat.lt_or_ge off ds.length with h' | h'
      · exact h'
      · rw [List.getElem?_eq_none h'] at h; cases h
    rw [List.getElem?_append_right (by omega), Nat.add_sub_cancel_left, List.getElem?_append_left hl]
    exact h

def oneS : SV → Bool
  | .lit a => a.one
  | .nd _ kd => !decide (kd = .any)
  | .agg _ => false
  | .tup _ => false
  | _ => true
theorem one_of {vs : List AV} {ls : List (Nat × Nat)} {x : SV} {a : AV} (h : D vs ls x a) (ho : oneS x = true) : a.one = true := by
  cases x <;> simp only [oneS, Bool.false_eq_true] at ho <;> simp only [D] at h
  · rw [h.1]; exact ho
  · rename_i kd
    obtain ⟨_, h⟩ := h
    cases kd <;> simp only [HasKd] at h
    · obtain ⟨n, rfl⟩ := h; rfl
    · obtain ⟨n, rfl, _⟩ := h; rfl
    · obtain ⟨n, rfl, _⟩ := h; rfl
    · obtain ⟨n, rfl⟩ := h; rfl
    · obtain ⟨n, rfl⟩ := h; rfl
    · obtain ⟨n, rfl, _⟩ := h; cases n <;> rfl
    · exact h
    · simp at ho
  · obtain ⟨l, _, _, rfl⟩ := h; rfl
  · obtain ⟨l, _, _, rfl⟩ := h; rfl
  · obtain ⟨l, _, rfl, _⟩ := h; rfl
  · obtain ⟨l, rfl, _⟩ := h; rfl
theorem all_one_of {vs : List AV} {ls : List (Nat × Nat)} : ∀ {x : List SV} {a : List AV}, DL vs ls x a → x.all oneS = true → a.all AV.one = true
  | [], _, h, _ => by simp only [DL] at h; subst h; rfl
  | c :: cs, _, h, ho => by
    simp only [DL] at h; obtain ⟨b, bs, rfl, h1, h2⟩ := h
    simp only [List.all_cons, Bool.and_eq_true] at ho ⊢
    exact ⟨one_of h1 ho.1, all_one_of h2 ho.2⟩
def cellsS : SV → Option (List SV)
  | .agg cs => some cs
  | x => if oneS x then some [x] else none
theorem cellsS_of {vs : List AV} {ls : List (Nat × Nat)} {x : SV} {a : AV} {cs : List SV} (h : D vs ls x a) (hc : cellsS x = some cs) : ∃ ds, a.cells = some ds ∧ DL vs ls cs ds := by
  unfold cellsS at hc
  split at hc
  · cases hc; simp only [D] at h; obtain ⟨bs, rfl, h⟩ := h; exact ⟨bs, rfl, h⟩
  · split at hc
    · rename_i ho
      cases hc
      have := one_of h ho
      refine ⟨[a], ?_, by simp only [DL]; exact ⟨a, [], rfl, h, rfl⟩⟩
      cases a <;> first | rfl | (cases this)
    · cases hc

def fillS (env : List (Nat × SV)) (cs : List SV) : List (Nat × Nat × Opd) → Option (List SV)
  | [] => some cs
  | (off, size, x) :: rest =>
    match sev env x with
    | some v => match cellsS v with
      | some vs => if vs.length = size ∧ off + size ≤ cs.length then fillS env (cs.take off ++ vs ++ cs.drop (off + vs.length)) rest else none
      | none => none
    | none => none
theorem fillS_of {env : List (Nat × SV)} {vs : List AV} {ls : List (Nat × Nat)} {E : Env} (he : EnvOk env vs ls E) : ∀ {parts : List (Nat × Nat × Opd)} {cs : List SV} {ds : List AV} {ws : List SV}, DL vs ls cs ds → fillS env cs parts = some ws → ∃ r, fillA E ds parts = some r ∧ DL vs ls ws r
  | [], cs, ds, ws, h, e => by cases e; exact ⟨ds, rfl, h⟩
  | (off, size, x) :: rest, cs, ds, ws, h, e => by
    unfold fillS at e
    split at e
    · rename_i v hv
      split at e
      · rename_i us hu
        split at e
        · rename_i hl
          obtain ⟨us', h1, h2⟩ := cellsS_of (sev_of he hv) hu
          unfold fillA
          rw [h1]
          simp only []
          rw [if_pos ⟨by rw [← h2.len]; exact hl.1, by rw [← h.len]; exact hl.2⟩]
          refine fillS_of he ?_ e
          unfold laid
          rw [← h2.len]
          exact ((h.take off).append h2).append (h.drop _)
        · cases e
      · cases e
    · cases e

def litO : Option SV → Option (Option AV)
  | none => some none
  | some (.lit a) => some (some a)
  | _ => none
theorem litO_of {vs : List AV} {ls : List (Nat × Nat)} {x : Option SV} {b : Option AV} {a : Option AV} (h : DO vs ls x a) (e : litO x = some b) : a = b := by
  unfold litO at e
  split at e
  · cases e; exact h
  · cases e; obtain ⟨c, rfl, h⟩ := h; simp only [D] at h; rw [h.1]
  · cases e

def natLit : SV → Option Nat
  | .lit (.int _ n) => if 0 ≤ n then some n.toNat else none
  | _ => none
theorem natLit_of {vs : List AV} {ls : List (Nat × Nat)} {x : SV} {a : AV} {n : Nat} (h : D vs ls x a) (e : natLit x = some n) : ∃ k, a = .int k (n : Int) := by
  unfold natLit at e
  split at e
  · rename_i k m
    split at e
    · cases e
      simp only [D] at h
      exact ⟨k, by rw [h.1]; congr 1; omega⟩
    · cases e
  · cases e

def ret1 (s : St) (v : SV) : Option (List (SV × St)) := some [(v, s)]

/-- A quiet operation. -/
def sxq (ru : List (RK × SV)) (op : AOp) (s : St) : Option (List (SV × St)) :=
  match op with
  | .move x => (sev s.env x).bind (ret1 s)
  | .pick c a b => match sev s.env c, sev s.env a, sev s.env b with
    | some c, some a, some b => match kdOf c with
      | some .bool => some ((splitB c s).map fun p => (if p.1 = true then a else b, p.2))
      | _ => none
    | _, _, _ => none
  | .load ag n a => match sev s.env a with
    | some (.ptr j off) => match findA j s.heap with
      | some (cs, _) => (partS ag n off cs).bind (ret1 s)
      | none => none
    | some x => (findR (.ld ag n x) ru).bind (ret1 s)
    | none => none
  | .nilCheck x => match sev s.env x with
    | some (.ptr j off) => ret1 s (.ptr j off)
    | some (.fn f a b) => ret1 s (.fn f a b)
    | some (.lit (.glob g)) => ret1 s (.lit (.glob g))
    | _ => none
  | .bin op x y => match sev s.env x, sev s.env y with
    | some x, some y => one (sbin op x y s)
    | _, _ => none
  | .eqAgg neg kind n x y => match sev s.env x, sev s.env y with
    | some (.agg xs), some (.agg ys) => if xs.length = n then seqA neg kind xs ys s else none
    | _, _ => none
  | .eqBool neg x y => match sev s.env x, sev s.env y with
    | some x, some y => seqB neg x y s
    | _, _ => none
  | .eqNilI neg x y => match sev s.env x, sev s.env y with
    | some (.lit .niliface), some (.lit .niliface) => ret1 s (lbool (!neg))
    | some (.ifc _ _), some (.lit .niliface) => ret1 s (lbool neg)
    | _, _ => none
  | .eqNilS neg x y => match sev s.env x, sev s.env y with
    | some (.lit .nilslice), some (.lit .nilslice) => ret1 s (lbool (!neg))
    | some (.sl _ _ _ cap _), some (.lit .nilslice) => if cap = 0 then none else ret1 s (lbool neg)
    | some x, some (.lit .nilslice) => if neg = true then none else (findR (.nilS x) ru).bind (ret1 s)
    | _, _ => none
  | .un op x => match sev s.env x with
    | some x => one (sun op x s)
    | none => none
  | .conv c x => match sev s.env x with
    | some x => one (sconv c x s)
    | none => none
  | .fn f as bs => match sevL s.env as, sevL s.env bs with
    | some x, some y => ret1 s (.fn f x y)
    | _, _ => none
  | .build zs parts => if zs.all litOk then (fillS s.env (zs.map .lit) parts).bind fun cs => ret1 s (.agg cs) else none
  | .slArr n sz x lo hi mx => match sev s.env x with
    | some (.ptr j o) => match findA j s.heap, (sevO s.env lo).bind litO, (sevO s.env hi).bind litO, (sevO s.env mx).bind litO with
      | some (cs, _), some lo, some hi, some mx => if o + n * sz ≤ cs.length then match bnds n n lo hi mx with
          | some (a, h, m) => ret1 s (.sl j (o + a * sz) (h - a) (m - a) sz)
          | none => none
        else none
      | _, _, _, _ => none
    | _ => none
  | .slSl sz x lo hi mx => match sev s.env x, sevO s.env lo, sevO s.env hi, sevO s.env mx with
    | some (.sl j o len cap sz'), some lo, some hi, some mx => match litO lo, litO hi, litO mx with
      | some lo, some hi, some mx => if sz = sz' then match bnds len cap lo hi mx with
          | some (a, h, m) => ret1 s (.sl j (o + a * sz) (h - a) (m - a) sz)
          | none => none
        else none
      | _, _, _ => none
    | some (.lit .nilslice), some lo, some hi, some mx => match litO lo, litO hi, litO mx with
      | some lo, some hi, some mx => match bnds 0 0 lo hi mx with
        | some _ => ret1 s (.lit .nilslice)
        | none => none
      | _, _, _ => none
    | some x, some lo, some hi, some none => (findR (.slSl sz x lo hi) ru).bind (ret1 s)
    | _, _, _, _ => none
  | .slStr x lo hi => match sev s.env x, sevO s.env lo, sevO s.env hi with
    | some x, some lo, some hi => (findR (.slStr x lo hi) ru).bind (ret1 s)
    | _, _, _ => none
  | .faddr off x => match sev s.env x with
    | some (.ptr j o) => ret1 s (.ptr j (o + off))
    | _ => none
  | .field ag off n x => match sev s.env x with
    | some (.agg cs) => (partS ag n off cs).bind (ret1 s)
    | _ => none
  | .iaArr len sz x i => match sev s.env x, sev s.env i with
    | some (.ptr j o), some i => match natLit i with
      | some n => if n < len then ret1 s (.ptr j (o + n * sz)) else none
      | none => none
    | _, _ => none
  | .iaSl sz x i => match sev s.env x, sev s.env i with
    | some (.sl j o len _ sz'), some i => match natLit i with
      | some n => if sz = sz' ∧ n < len then ret1 s (.ptr j (o + n * sz)) else none
      | none => none
    | some x, some i => (findR (.ia sz x i) ru).bind (ret1 s)
    | _, _ => none
  | .ixArr len ag sz x i => match sev s.env x, sev s.env i with
    | some (.agg cs), some i => match natLit i with
      | some n => if n < len then (partS ag sz (n * sz) cs).bind (ret1 s) else none
      | none => none
    | _, _ => none
  | .ixStr x i => match sev s.env x, sev s.env i with
    | some x, some i => (findR (.ixStr x i) ru).bind (ret1 s)
    | _, _ => none
  | .extract i x => match sev s.env x with
    | some (.tup vs) => vs[i]?.bind (ret1 s)
    | _ => none
  | .len x => match sev s.env x with
    | some (.sl _ _ n _ _) => ret1 s (.lit (.int .i64 n))
    | some (.lit .nilslice) => ret1 s (.lit (.int .i64 0))
    | some x => (findR (.len x) ru).bind (ret1 s)
    | none => none
  | .lenStr x => match sev s.env x with
    | some (.lit (.str l)) => ret1 s (.lit (.int .i64 l.length))
    | some x => (findR (.lenStr x) ru).bind (ret1 s)
    | none => none
  | .lenC n => ret1 s (.lit (.int .i64 n))
  | .cap x => match sev s.env x with
    | some (.sl _ _ _ c _) => ret1 s (.lit (.int .i64 c))
    | some (.lit .nilslice) => ret1 s (.lit (.int .i64 0))
    | _ => none
  | .min2 x y => match sev s.env x, sev s.env y with
    | some x, some y => one (smm false x y s)
    | _, _ => none
  | .max2 x y => match sev s.env x, sev s.env y with
    | some x, some y => one (smm true x y s)
    | _, _ => none
  | .iface t x => match sev s.env x with
    | some x => ret1 s (.ifc t x)
    | none => none
  | _ => none

section
variable {c : Cx} {s : St} {vs : List AV} {ls : List (Nat × Nat)} {H : AHeap} {E : Env}

theorem map_const {E : Env} {b : Option AV} : (b.map Opd.const).map (·.ev E) = b := by cases b <;> rfl
def GotQ (c : Cx) (s : St) (vs : List AV) (ls : List (Nat × Nat)) (H : AHeap) (ps : List (SV × St)) (o : Option AV) : Prop := ∃ r, o = some r ∧ GotL c.ρ c.φ s vs ls H ps r

theorem ret1_got (h : In c s vs ls H) {v : SV} {r : AV} {ps : List (SV × St)} (he : ret1 s v = some ps) (hd : D vs ls v r) : GotL c.ρ c.φ s vs ls H ps r := by
  cases he; exact (Got.same h.ok hd).one
theorem one_got {p : Option (SV × St)} {ps : List (SV × St)} (he : one p = some ps) {o : Option AV} (h : ∀ q, p = some q → ∃ r, o = some r ∧ Got c.ρ c.φ s vs ls H q r) : GotQ c s vs ls H ps o := by
  unfold one at he
  rw [Option.map_eq_some_iff] at he
  obtain ⟨q, hq, rfl⟩ := he
  obtain ⟨r, h1, h2⟩ := h q hq
  exact ⟨r, h1, h2.one⟩
theorem rule_got (h : In c s vs ls H) {k : RK} {ps : List (SV × St)} (he : (findR k c.ru).bind (ret1 s) = some ps) : ∃ v, RuleOk c k v ∧ ∀ r, D c.vs c.ls v r → GotL c.ρ c.φ s vs ls H ps r := by
  rw [Option.bind_eq_some_iff] at he
  obtain ⟨v, hv, he⟩ := he
  exact ⟨v, h.rules k v (findR_mem hv), fun r hd => ret1_got h he (hd.mono h.lev h.lel)⟩
theorem In.eq (h : In c s vs ls H) {x : SV} {a b : AV} (h1 : D c.vs c.ls x a) (h2 : D vs ls x b) : b = a := (h1.mono h.lev h.lel).det h2 |>.symm
theorem In.eqO (h : In c s vs ls H) {x : Option SV} {a b : Option AV} (h1 : DO c.vs c.ls x a) (h2 : DO vs ls x b) : b = a := by
  cases x with
  | none => rw [show b = none from h2, show a = none from h1]
  | some x => obtain ⟨a', rfl, h1⟩ := h1; obtain ⟨b', rfl, h2⟩ := h2; rw [h.eq h1 h2]
theorem In.eqL (h : In c s vs ls H) {x : List SV} {a b : List AV} (h1 : DL c.vs c.ls x a) (h2 : DL vs ls x b) : b = a := (h1.mono h.lev h.lel).det h2 |>.symm

theorem sxq_got (h : In c s vs ls H) (hE : EnvOk s.env vs ls E) {op : AOp} {ps : List (SV × St)} (he : sxq c.ru op s = some ps) : GotQ c s vs ls H ps (aval E H.get op) := by
  cases op <;> simp only [sxq, reduceCtorEq] at he
  case move x =>
    rw [Option.bind_eq_some_iff] at he
    obtain ⟨v, hv, he⟩ := he
    exact ⟨_, rfl, ret1_got h he (sev_of hE hv)⟩
  case pick cc a b =>
    split at he
    · rename_i c' a' b' h1 h2 h3
      split at he
      · rename_i hk
        cases he
        have d1 := sev_of hE h1
        obtain ⟨t, ht⟩ := (kd_of d1 hk).1
        rw [ht] at d1
        obtain ⟨s2, m2, o2, e2⟩ := splitB_of h.ok d1
        refine ⟨if t = true then a.ev E else b.ev E, by simp only [aval, ht], (if t = true then a' else b', s2), List.mem_map.2 ⟨(t, s2), m2, rfl⟩, vs, LeL.refl _, o2, ?_, e2⟩
        cases t
        · exact sev_of hE h3
        · exact sev_of hE h2
      · cases he
    · cases he
  case load ag n a =>
    split at he
    · rename_i j off h1
      have d1 := sev_of hE h1
      simp only [D] at d1
      obtain ⟨l, bs0, hl, ha⟩ := d1
      split at he
      · rename_i cs wr hf
        obtain ⟨l', b', pre, ds, post, wr', k1, k2, k3, k4, _⟩ := h.ok.heap _ _ _ hf
        rw [hl] at k1
        cases k1
        rw [Option.bind_eq_some_iff] at he
        obtain ⟨v, hv, he⟩ := he
        obtain ⟨r, hr, hd⟩ := partS_of k4 hv
        have hw := part_win (pre := pre) (post := post) hr
        rw [k3] at hw
        exact ⟨r, by simp only [aval, ha, k2, hw], ret1_got h he hd⟩
      · cases he
    · rename_i x _ h1
      obtain ⟨v, ⟨a', r, q1, q2, q3⟩, hg⟩ := rule_got h he
      have e := h.eq q1 (sev_of hE h1)
      refine ⟨r, ?_, hg r q2⟩
      have := q3 E H h.kept
      simp only [aval] at this ⊢
      rw [e]; exact this
    · cases he
  case nilCheck x =>
    split at he
    · rename_i j off h1
      have d1 := sev_of hE h1
      have d2 := d1
      simp only [D] at d1
      obtain ⟨l, bs0, hl, ha⟩ := d1
      exact ⟨_, by simp only [aval, ha]; rfl, ret1_got h he (by rw [← ha]; exact d2)⟩
    · rename_i f a b h1
      have d1 := sev_of hE h1
      have d2 := d1
      simp only [D] at d1
      obtain ⟨xs, ys, ha, _⟩ := d1
      exact ⟨_, by simp only [aval, ha]; rfl, ret1_got h he (by rw [← ha]; exact d2)⟩
    · rename_i g h1
      have d1 := sev_of hE h1
      have d2 := d1
      simp only [D] at d1
      exact ⟨_, by simp only [aval, d1.1]; rfl, ret1_got h he (by unfold D; exact ⟨rfl, rfl⟩)⟩
    · cases he
  case bin op x y =>
    split at he
    · rename_i x' y' h1 h2
      exact one_got he fun q hq => by simp only [aval]; exact sbin_got h.ok (sev_of hE h1) (sev_of hE h2) hq
    · cases he
  case eqAgg neg kind n x y =>
    split at he
    · rename_i xs ys h1 h2
      split at he
      · rename_i hl
        have d1 := sev_of hE h1
        have d2 := sev_of hE h2
        simp only [D] at d1 d2
        obtain ⟨as, ha, d1⟩ := d1
        obtain ⟨bs, hb, d2⟩ := d2
        obtain ⟨r, hr, hg⟩ := seqA_got h.ok d1 d2 he
        refine ⟨_, ?_, hg⟩
        simp only [aval, ha, hb]
        rw [if_pos (by rw [← d1.len]; exact hl), hr]; rfl
      · cases he
    · cases he
  case eqBool neg x y =>
    split at he
    · rename_i x' y' h1 h2
      obtain ⟨c', d', e1, e2, hg⟩ := seqB_got h.ok (sev_of hE h1) (sev_of hE h2) he
      exact ⟨_, by simp only [aval, e1, e2], hg⟩
    · cases he
  case eqNilI neg x y =>
    split at he
    · rename_i h1 h2
      have d1 := sev_of hE h1
      have d2 := sev_of hE h2
      simp only [D] at d1 d2
      exact ⟨_, by simp only [aval, d1.1, d2.1]; rfl, ret1_got h he (by unfold lbool D; exact ⟨by cases neg <;> rfl, rfl⟩)⟩
    · rename_i t v h1 h2
      have d1 := sev_of hE h1
      have d2 := sev_of hE h2
      simp only [D] at d1 d2
      obtain ⟨a, ha, _⟩ := d1
      exact ⟨_, by simp only [aval, ha, d2.1]; rfl, ret1_got h he (by unfold lbool D; exact ⟨by cases neg <;> rfl, rfl⟩)⟩
    · cases he
  case eqNilS neg x y =>
    split at he
    · rename_i h1 h2
      have d1 := sev_of hE h1
      have d2 := sev_of hE h2
      simp only [D] at d1 d2
      exact ⟨_, by simp only [aval, d1.1, d2.1]; rfl, ret1_got h he (by unfold lbool D; exact ⟨by cases neg <;> rfl, rfl⟩)⟩
    · rename_i j o len cap sz h1 h2
      have d1 := sev_of hE h1
      have d2 := sev_of hE h2
      simp only [D] at d1 d2
      obtain ⟨l, _, _, ha⟩ := d1
      split at he
      · cases he
      · rename_i hc
        exact ⟨_, by simp only [aval, ha, d2.1]; rw [if_neg hc], ret1_got h he (by unfold lbool D; exact ⟨by cases neg <;> rfl, rfl⟩)⟩
    · rename_i x' _ _ h1 h2
      have d2 := sev_of hE h2
      simp only [D] at d2
      split at he
      · cases he
      · rename_i hneg
        obtain rfl : neg = false := by cases neg; rfl; exact absurd rfl hneg
        obtain ⟨v, ⟨a', r, q1, q2, q3⟩, hg⟩ := rule_got h he
        have e := h.eq q1 (sev_of hE h1)
        refine ⟨r, ?_, hg r q2⟩
        have := q3 E H.get
        simp only [aval] at this ⊢
        rw [e, d2.1]; exact this
    · cases he
  case un op x =>
    split at he
    · rename_i x' h1
      exact one_got he fun q hq => by simp only [aval]; exact sun_got h.ok (sev_of hE h1) hq
    · cases he
  case conv cv x =>
    split at he
    · rename_i x' h1
      exact one_got he fun q hq => by simp only [aval]; exact sconv_got h.ok (sev_of hE h1) hq
    · cases he
  case fn f as bs =>
    split at he
    · rename_i x y h1 h2
      exact ⟨_, by simp only [aval]; rfl, ret1_got h he (by simp only [D]; exact ⟨_, _, rfl, sevL_of hE h1, sevL_of hE h2⟩)⟩
    · cases he
  case build zs parts =>
    split at he
    · rename_i hz
      rw [Option.bind_eq_some_iff] at he
      obtain ⟨cs, hcs, he⟩ := he
      obtain ⟨r, hr, hd⟩ := fillS_of hE (DL_lits hz) hcs
      exact ⟨_, by simp only [aval, hr]; rfl, ret1_got h he (by simp only [D]; exact ⟨_, rfl, hd⟩)⟩
    · cases he
  case slArr n sz x lo hi mx =>
    split at he
    · rename_i j o h1
      have d1 := sev_of hE h1
      simp only [D] at d1
      obtain ⟨l, bs0, hl, ha⟩ := d1
      split at he
      · rename_i cs wr lo' hi' mx' hf e1 e2 e3
        obtain ⟨l', b', pre, ds, post, wr', k1, k2, k3, k4, _⟩ := h.ok.heap _ _ _ hf
        rw [hl] at k1
        cases k1
        rw [Option.bind_eq_some_iff] at e1 e2 e3
        obtain ⟨u1, e1, e1'⟩ := e1
        obtain ⟨u2, e2, e2'⟩ := e2
        obtain ⟨u3, e3, e3'⟩ := e3
        have g1 := litO_of (sevO_of hE e1) e1'
        have g2 := litO_of (sevO_of hE e2) e2'
        have g3 := litO_of (sevO_of hE e3) e3'
        split at he
        · rename_i hlen
          split at he
          · rename_i a hh m hb
            refine ⟨.slice l (bs0 + o + a * sz) (hh - a) (m - a) sz, ?_, ret1_got h he (by simp only [D]; exact ⟨l, bs0, hl, by rw [Nat.add_assoc]⟩)⟩
            simp only [aval, ha, k2]
            rw [if_pos (by simp only [List.length_append, k3, ← k4.len]; omega), g1, g2, g3, hb]
          · cases he
        · cases he
      · cases he
    · cases he
  case slSl sz x lo hi mx =>
    split at he
    · rename_i j o len cap sz' lo' hi' mx' h1 e1 e2 e3
      have d1 := sev_of hE h1
      simp only [D] at d1
      obtain ⟨l, bs0, hl, ha⟩ := d1
      split at he
      · rename_i lo2 hi2 mx2 f1 f2 f3
        have g1 := litO_of (sevO_of hE e1) f1
        have g2 := litO_of (sevO_of hE e2) f2
        have g3 := litO_of (sevO_of hE e3) f3
        split at he
        · rename_i hsz
          split at he
          · rename_i a hh m hb
            refine ⟨.slice l (bs0 + o + a * sz) (hh - a) (m - a) sz, ?_, ret1_got h he (by simp only [D]; exact ⟨l, bs0, hl, by rw [Nat.add_assoc]⟩)⟩
            simp only [aval, ha]
            rw [if_pos hsz, g1, g2, g3, hb]
          · cases he
        · cases he
      · cases he
    · rename_i lo' hi' mx' h1 e1 e2 e3
      have d1 := sev_of hE h1
      simp only [D] at d1
      split at he
      · rename_i lo2 hi2 mx2 f1 f2 f3
        have g1 := litO_of (sevO_of hE e1) f1
        have g2 := litO_of (sevO_of hE e2) f2
        have g3 := litO_of (sevO_of hE e3) f3
        split at he
        · rename_i q hb
          refine ⟨.nilslice, ?_, ret1_got h he (by unfold D; exact ⟨rfl, rfl⟩)⟩
          simp only [aval, d1.1]
          rw [g1, g2, g3, hb]
        · cases he
      · cases he
    · rename_i x' lo' hi' _ _ h1 e1 e2 e3
      obtain ⟨v, ⟨a', b', d', r, q1, q2, q3, q4, q5⟩, hg⟩ := rule_got h he
      have e := h.eq q1 (sev_of hE h1)
      have e4 := h.eqO q2 (sevO_of hE e1)
      have e5 := h.eqO q3 (sevO_of hE e2)
      have e6 := sevO_of hE e3
      refine ⟨r, ?_, hg r q4⟩
      have := q5 E H.get
      simp only [aval, map_const, Option.map_none] at this ⊢
      rw [e, e4, e5, show mx.map (·.ev E) = none from e6]
      exact this
    · cases he
  case slStr x lo hi =>
    split at he
    · rename_i x' lo' hi' h1 e1 e2
      obtain ⟨v, ⟨a', b', d', r, q1, q2, q3, q4, q5⟩, hg⟩ := rule_got h he
      have e := h.eq q1 (sev_of hE h1)
      have e4 := h.eqO q2 (sevO_of hE e1)
      have e5 := h.eqO q3 (sevO_of hE e2)
      refine ⟨r, ?_, hg r q4⟩
      have := q5 E H.get
      simp only [aval, map_const] at this ⊢
      rw [e, e4, e5]
      exact this
    · cases he
  case faddr off x =>
    split at he
    · rename_i j o h1
      have d1 := sev_of hE h1
      simp only [D] at d1
      obtain ⟨l, bs0, hl, ha⟩ := d1
      exact ⟨.ptr l (bs0 + o + off), by simp only [aval, ha], ret1_got h he (by simp only [D]; exact ⟨l, bs0, hl, by rw [Nat.add_assoc]⟩)⟩
    · cases he
  case field ag off n x =>
    split at he
    · rename_i cs h1
      have d1 := sev_of hE h1
      simp only [D] at d1
      obtain ⟨ds, ha, d1⟩ := d1
      rw [Option.bind_eq_some_iff] at he
      obtain ⟨v, hv, he⟩ := he
      obtain ⟨r, hr, hd⟩ := partS_of d1 hv
      exact ⟨r, by simp only [aval, ha, hr], ret1_got h he hd⟩
    · cases he
  case iaArr len sz x i =>
    split at he
    · rename_i j o i' h1 h2
      have d1 := sev_of hE h1
      simp only [D] at d1
      obtain ⟨l, bs0, hl, ha⟩ := d1
      split at he
      · rename_i n hn
        obtain ⟨k, hi⟩ := natLit_of (sev_of hE h2) hn
        split at he
        · rename_i hlt
          refine ⟨.ptr l (bs0 + o + n * sz), ?_, ret1_got h he (by simp only [D]; exact ⟨l, bs0, hl, by rw [Nat.add_assoc]⟩)⟩
          simp only [aval, ha, hi]
          rw [if_pos ⟨by omega, by omega⟩, Int.toNat_natCast]
        · cases he
      · cases he
    · cases he
  case iaSl sz x i =>
    split at he
    · rename_i j o len cap sz' i' h1 h2
      have d1 := sev_of hE h1
      simp only [D] at d1
      obtain ⟨l, bs0, hl, ha⟩ := d1
      split at he
      · rename_i n hn
        obtain ⟨k, hi⟩ := natLit_of (sev_of hE h2) hn
        split at he
        · rename_i hlt
          refine ⟨.ptr l (bs0 + o + n * sz), ?_, ret1_got h he (by simp only [D]; exact ⟨l, bs0, hl, by rw [Nat.add_assoc]⟩)⟩
          simp only [aval, ha, hi]
          rw [if_pos ⟨hlt.1, by omega, by omega⟩, Int.toNat_natCast]
        · cases he
      · cases he
    · rename_i x' i' _ h1 h2
      obtain ⟨v, ⟨a', b', r, q1, q2, q3, q4⟩, hg⟩ := rule_got h he
      have e := h.eq q1 (sev_of hE h1)
      have e' := h.eq q2 (sev_of hE h2)
      refine ⟨r, ?_, hg r q3⟩
      have := q4 E H.get
      simp only [aval] at this ⊢
      rw [e, e']; exact this
    · cases he
  case ixArr len ag sz x i =>
    split at he
    · rename_i cs i' h1 h2
      have d1 := sev_of hE h1
      simp only [D] at d1
      obtain ⟨ds, ha, d1⟩ := d1
      split at he
      · rename_i n hn
        obtain ⟨k, hi⟩ := natLit_of (sev_of hE h2) hn
        split at he
        · rename_i hlt
          rw [Option.bind_eq_some_iff] at he
          obtain ⟨v, hv, he⟩ := he
          obtain ⟨r, hr, hd⟩ := partS_of d1 hv
          refine ⟨r, ?_, ret1_got h he hd⟩
          simp only [aval, ha, hi]
          rw [if_pos ⟨by omega, by omega⟩, Int.toNat_natCast, hr]
        · cases he
      · cases he
    · cases he
  case ixStr x i =>
    split at he
    · rename_i x' i' h1 h2
      obtain ⟨v, ⟨a', b', r, q1, q2, q3, q4⟩, hg⟩ := rule_got h he
      have e := h.eq q1 (sev_of hE h1)
      have e' := h.eq q2 (sev_of hE h2)
      refine ⟨r, ?_, hg r q3⟩
      have := q4 E H.get
      simp only [aval] at this ⊢
      rw [e, e']; exact this
    · cases he
  case extract i x =>
    split at he
    · rename_i ws h1
      have d1 := sev_of hE h1
      simp only [D] at d1
      obtain ⟨ds, ha, d1⟩ := d1
      rw [Option.bind_eq_some_iff] at he
      obtain ⟨v, hv, he⟩ := he
      obtain ⟨r, hr, hd⟩ := d1.get hv
      exact ⟨r, by simp only [aval, ha, hr], ret1_got h he hd⟩
    · cases he
  case len x =>
    split at he
    · rename_i j o n cap sz h1
      have d1 := sev_of hE h1
      simp only [D] at d1
      obtain ⟨l, bs0, hl, ha⟩ := d1
      exact ⟨_, by simp only [aval, ha]; rfl, ret1_got h he (by unfold D; exact ⟨rfl, rfl⟩)⟩
    · rename_i h1
      have d1 := sev_of hE h1
      simp only [D] at d1
      exact ⟨_, by simp only [aval, d1.1]; rfl, ret1_got h he (by unfold D; exact ⟨rfl, rfl⟩)⟩
    · rename_i x' _ _ h1
      obtain ⟨v, ⟨a', r, q1, q2, q3⟩, hg⟩ := rule_got h he
      have e := h.eq q1 (sev_of hE h1)
      refine ⟨r, ?_, hg r q2⟩
      have := q3 E H.get
      simp only [aval] at this ⊢
      rw [e]; exact this
    · cases he
  case lenStr x =>
    split at he
    · rename_i l h1
      have d1 := sev_of hE h1
      simp only [D] at d1
      exact ⟨_, by simp only [aval, d1.1]; rfl, ret1_got h he (by unfold D; exact ⟨rfl, rfl⟩)⟩
    · rename_i x' _ h1
      obtain ⟨v, ⟨a', r, q1, q2, q3⟩, hg⟩ := rule_got h he
      have e := h.eq q1 (sev_of hE h1)
      refine ⟨r, ?_, hg r q2⟩
      have := q3 E H.get
      simp only [aval] at this ⊢
      rw [e]; exact this
    · cases he
  case lenC n => exact ⟨_, by simp only [aval]; rfl, ret1_got h he (by unfold D; exact ⟨rfl, rfl⟩)⟩
  case cap x =>
    split at he
    · rename_i j o n cap sz h1
      have d1 := sev_of hE h1
      simp only [D] at d1
      obtain ⟨l, bs0, hl, ha⟩ := d1
      exact ⟨_, by simp only [aval, ha]; rfl, ret1_got h he (by unfold D; exact ⟨rfl, rfl⟩)⟩
    · rename_i h1
      have d1 := sev_of hE h1
      simp only [D] at d1
      exact ⟨_, by simp only [aval, d1.1]; rfl, ret1_got h he (by unfold D; exact ⟨rfl, rfl⟩)⟩
    · cases he
  case min2 x y =>
    split at he
    · rename_i x' y' h1 h2
      exact one_got he fun q hq => by simp only [aval]; have := smm_got h.ok (sev_of hE h1) (sev_of hE h2) hq; simpa only [mmA, Bool.false_eq_true, if_false] using this
    · cases he
  case max2 x y =>
    split at he
    · rename_i x' y' h1 h2
      exact one_got he fun q hq => by simp only [aval]; have := smm_got h.ok (sev_of hE h1) (sev_of hE h2) hq; simpa only [mmA, if_true] using this
    · cases he
  case iface t x =>
    split at he
    · rename_i x' h1
      exact ⟨_, by simp only [aval]; rfl, ret1_got h he (by simp only [D]; exact ⟨_, rfl, sev_of hE h1⟩)⟩
    · cases he
end
end Go.Ab
