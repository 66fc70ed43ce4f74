/- Symbolic execution: values over nodes, states of it, and what they stand for. -/
import Derived.Test.YtgjhjemmddojfaaAb22
set_option linter.unusedVariables false
set_option linter.unusedSimpArgs false
namespace Go.Ab

inductive Kd where
  | int (k : IntKind)
  | flt (k : FloatKind)
  | f64n
  | bool
  | str
  | bits
  | one
  | any
  deriving DecidableEq

inductive SV where
  | lit (a : AV)
  | nd (i : Nat) (kd : Kd)
  | agg (cs : List SV)
  | tup (cs : List SV)
  | ptr (j off : Nat)
  | sl (j off len cap sz : Nat)
  | fn (f : FuncId) (first cap : List SV)
  | ifc (t : TypeId) (v : SV)
  deriving Inhabited

inductive Node where
  | atom (i : Nat)
  | bin (op : BinOp) (x y : SV)
  | un (op : UnOp) (x : SV)
  | conv (c : Cv) (x : SV)
  | mm (mx : Bool) (x y : SV)
  | eqB (x y : SV)
  | app (g : Nat) (xs : List SV)
  | bits (x : SV)

def litOk : AV → Bool
  | .int _ _ => true
  | .bool _ => true
  | .str _ => true
  | .nilptr => true
  | .nilslice => true
  | .nilfunc => true
  | .niliface => true
  | .glob _ => true
  | .undef => true
  | .flt _ none => true
  | .flt k (some b) => decide (b < 2 ^ k.format.width) && !(k.decode b).isNaN
  | _ => false

def litBeq : AV → AV → Bool
  | .int k n, .int k' m => decide (k = k') && decide (n = m)
  | .bool a, .bool b => a == b
  | .str a, .str b => decide (a = b)
  | .flt k x, .flt k' y => decide (k = k') && decide (x = y)
  | .nilptr, .nilptr => true
  | .nilslice, .nilslice => true
  | .nilfunc, .nilfunc => true
  | .niliface, .niliface => true
  | .undef, .undef => true
  | .glob a, .glob b => decide (a = b)
  | _, _ => false
theorem litBeq_eq {a b : AV} (h : litBeq a b = true) : a = b := by
  cases a <;> cases b <;> simp [litBeq] at h <;> simp [h]

mutual
def SV.beq : SV → SV → Bool
  | .lit a, .lit b => litBeq a b
  | .nd i k, .nd j k' => i == j && decide (k = k')
  | .agg cs, .agg ds => SV.beqL cs ds
  | .tup cs, .tup ds => SV.beqL cs ds
  | .ptr j o, .ptr j' o' => j == j' && o == o'
  | .sl j o l c z, .sl j' o' l' c' z' => j == j' && o == o' && l == l' && c == c' && z == z'
  | .fn f a b, .fn f' a' b' => f == f' && SV.beqL a a' && SV.beqL b b'
  | .ifc t v, .ifc t' v' => t == t' && SV.beq v v'
  | _, _ => false
def SV.beqL : List SV → List SV → Bool
  | [], [] => true
  | a :: as, b :: bs => SV.beq a b && SV.beqL as bs
  | _, _ => false
end
mutual
theorem SV.eq_of_beq : ∀ {a b : SV}, SV.beq a b = true → a = b
  | .lit a, .lit b, h => by simp only [SV.beq] at h; rw [litBeq_eq h]
  | .nd i k, .nd j k', h => by simp [SV.beq] at h; simp [h]
  | .agg cs, .agg ds, h => by simp only [SV.beq] at h; rw [SV.eq_of_beqL h]
  | .tup cs, .tup ds, h => by simp only [SV.beq] at h; rw [SV.eq_of_beqL h]
  | .ptr j o, .ptr j' o', h => by simp [SV.beq] at h; simp [h]
  | .sl j o l c z, .sl j' o' l' c' z', h => by simp [SV.beq] at h; simp [h]
  | .fn f a b, .fn f' a' b', h => by
    simp only [SV.beq, Bool.and_eq_true, beq_iff_eq] at h
    rw [h.1.1, SV.eq_of_beqL h.1.2, SV.eq_of_beqL h.2]
  | .ifc t v, .ifc t' v', h => by
    simp only [SV.beq, Bool.and_eq_true, beq_iff_eq] at h
    rw [h.1, SV.eq_of_beq h.2]
  | .lit _, .nd _ _, h | .lit _, .agg _, h | .lit _, .tup _, h | .lit _, .ptr _ _, h | .lit _, .sl .., h | .lit _, .fn .., h | .lit _, .ifc .., h => by simp [SV.beq] at h
  | .nd _ _, .lit _, h | .nd _ _, .agg _, h | .nd _ _, .tup _, h | .nd _ _, .ptr _ _, h | .nd _ _, .sl .., h | .nd _ _, .fn .., h | .nd _ _, .ifc .., h => by simp [SV.beq] at h
  | .agg _, .lit _, h | .agg _, .nd _ _, h | .agg _, .tup _, h | .agg _, .ptr _ _, h | .agg _, .sl .., h | .agg _, .fn .., h | .agg _, .ifc .., h => by simp [SV.beq] at h
  | .tup _, .lit _, h | .tup _, .nd _ _, h | .tup _, .agg _, h | .tup _, .ptr _ _, h | .tup _, .sl .., h | .tup _, .fn .., h | .tup _, .ifc .., h => by simp [SV.beq] at h
  | .ptr _ _, .lit _, h | .ptr _ _, .nd _ _, h | .ptr _ _, .agg _, h | .ptr _ _, .tup _, h | .ptr _ _, .sl .., h | .ptr _ _, .fn .., h | .ptr _ _, .ifc .., h => by simp [SV.beq] at h
  | .sl .., .lit _, h | .sl .., .nd _ _, h | .sl .., .agg _, h | .sl .., .tup _, h | .sl .., .ptr .., h | .sl .., .fn .., h | .sl .., .ifc .., h => by simp [SV.beq] at h
  | .fn .., .lit _, h | .fn .., .nd _ _, h | .fn .., .agg _, h | .fn .., .tup _, h | .fn .., .ptr .., h | .fn .., .sl .., h | .fn .., .ifc .., h => by simp [SV.beq] at h
  | .ifc .., .lit _, h | .ifc .., .nd _ _, h | .ifc .., .agg _, h | .ifc .., .tup _, h | .ifc .., .ptr .., h | .ifc .., .sl .., h | .ifc .., .fn .., h => by simp [SV.beq] at h
theorem SV.eq_of_beqL : ∀ {a b : List SV}, SV.beqL a b = true → a = b
  | [], [], _ => rfl
  | a :: as, b :: bs, h => by
    simp only [SV.beqL, Bool.and_eq_true] at h
    rw [SV.eq_of_beq h.1, SV.eq_of_beqL h.2]
  | [], _ :: _, h | _ :: _, [], h => by simp [SV.beqL] at h
end

def Node.beq : Node → Node → Bool
  | .atom i, .atom j => i == j
  | .bin o x y, .bin o' x' y' => decide (o = o') && (x.beq x' && y.beq y')
  | .un o x, .un o' x' => decide (o = o') && x.beq x'
  | .conv c x, .conv c' x' => decide (c = c') && x.beq x'
  | .mm m x y, .mm m' x' y' => m == m' && (x.beq x' && y.beq y')
  | .eqB x y, .eqB x' y' => x.beq x' && y.beq y'
  | .app g xs, .app g' ys => g == g' && SV.beqL xs ys
  | .bits x, .bits x' => x.beq x'
  | _, _ => false
theorem Node.eq_of_beq {a b : Node} (h : a.beq b = true) : a = b := by
  cases a <;> cases b <;> simp only [Node.beq, Bool.and_eq_true, beq_iff_eq, decide_eq_true_eq, Bool.false_eq_true] at h
  · rw [h]
  · rw [h.1, SV.eq_of_beq h.2.1, SV.eq_of_beq h.2.2]
  · rw [h.1, SV.eq_of_beq h.2]
  · rw [h.1, SV.eq_of_beq h.2]
  · rw [h.1, SV.eq_of_beq h.2.1, SV.eq_of_beq h.2.2]
  · rw [SV.eq_of_beq h.1, SV.eq_of_beq h.2]
  · rw [h.1, SV.eq_of_beqL h.2]
  · rw [SV.eq_of_beq h]

/-! ### Meaning -/

def HasKd : Kd → AV → Prop
  | .int k, a => ∃ n, a = .int k n
  | .flt k, a => ∃ x, a = .flt k x ∧ fOk k x
  | .f64n, a => ∃ x, a = .flt .f64 x ∧ fOk .f64 x ∧ (f2f .f64 x .f32).isSome = true
  | .bool, a => ∃ b, a = .bool b
  | .str, a => ∃ s, a = .str s
  | .bits, a => ∃ x, a = bits32 x ∧ fOk .f32 x
  | .one, a => a.one = true
  | .any, _ => True

mutual
def D (vs : List AV) (ls : List (Nat × Nat)) : SV → AV → Prop
  | .lit a, b => b = a ∧ litOk a = true
  | .nd i kd, b => vs[i]? = some b ∧ HasKd kd b
  | .agg cs, b => ∃ bs, b = .agg bs ∧ DL vs ls cs bs
  | .tup cs, b => ∃ bs, b = .tuple bs ∧ DL vs ls cs bs
  | .ptr j off, b => ∃ l o, ls[j]? = some (l, o) ∧ b = .ptr l (o + off)
  | .sl j off len cap sz, b => ∃ l o, ls[j]? = some (l, o) ∧ b = .slice l (o + off) len cap sz
  | .fn f x y, b => ∃ xs ys, b = .func f xs ys ∧ DL vs ls x xs ∧ DL vs ls y ys
  | .ifc t v, b => ∃ a, b = .iface t a ∧ D vs ls v a
def DL (vs : List AV) (ls : List (Nat × Nat)) : List SV → List AV → Prop
  | [], bs => bs = []
  | c :: cs, bs => ∃ b bs', bs = b :: bs' ∧ D vs ls c b ∧ DL vs ls cs bs'
end

def LeL {α : Type} (a b : List α) : Prop := ∀ (i : Nat) (x : α), a[i]? = some x → b[i]? = some x
theorem LeL.refl {α : Type} (a : List α) : LeL a a := fun _ _ h => h
theorem LeL.trans {α : Type} {a b c : List α} (h : LeL a b) (k : LeL b c) : LeL a c := fun i x e => k i x (h i x e)
theorem LeL.app {α : Type} (a b : List α) : LeL a (a ++ b) := fun i x h => by
  rw [List.getElem?_append_left]
  · exact h
  · rcases Nat.lt_or_ge i a.length with h' | h'
    · exact h'
    · rw [List.getElem?_eq_none h'] at h; cases h

mutual
theorem D.mono {vs vs' : List AV} {ls ls' : List (Nat × Nat)} (hv : LeL vs vs') (hl : LeL ls ls') : ∀ {x : SV} {a : AV}, D vs ls x a → D vs' ls' x a
  | .lit _, _, h => by simp only [D] at h ⊢; exact h
  | .nd i kd, _, h => by simp only [D] at h ⊢; exact ⟨hv _ _ h.1, h.2⟩
  | .agg cs, _, h => by simp only [D] at h ⊢; obtain ⟨bs, e, h⟩ := h; exact ⟨bs, e, DL.mono hv hl h⟩
  | .tup cs, _, h => by simp only [D] at h ⊢; obtain ⟨bs, e, h⟩ := h; exact ⟨bs, e, DL.mono hv hl h⟩
  | .ptr j off, _, h => by simp only [D] at h ⊢; obtain ⟨l, o, e, h⟩ := h; exact ⟨l, o, hl _ _ e, h⟩
  | .sl j off len cap sz, _, h => by simp only [D] at h ⊢; obtain ⟨l, o, e, h⟩ := h; exact ⟨l, o, hl _ _ e, h⟩
  | .fn f x y, _, h => by simp only [D] at h ⊢; obtain ⟨xs, ys, e, h, h'⟩ := h; exact ⟨xs, ys, e, DL.mono hv hl h, DL.mono hv hl h'⟩
  | .ifc t v, _, h => by simp only [D] at h ⊢; obtain ⟨a, e, h⟩ := h; exact ⟨a, e, D.mono hv hl h⟩
theorem DL.mono {vs vs' : List AV} {ls ls' : List (Nat × Nat)} (hv : LeL vs vs') (hl : LeL ls ls') : ∀ {x : List SV} {a : List AV}, DL vs ls x a → DL vs' ls' x a
  | [], _, h => by simp only [DL] at h ⊢; exact h
  | c :: cs, _, h => by simp only [DL] at h ⊢; obtain ⟨b, bs, e, h, h'⟩ := h; exact ⟨b, bs, e, D.mono hv hl h, DL.mono hv hl h'⟩
end
mutual
/-- A symbolic value stands for one value at most. -/
theorem D.det {vs : List AV} {ls : List (Nat × Nat)} : ∀ {x : SV} {a b : AV}, D vs ls x a → D vs ls x b → a = b
  | .lit _, _, _, h, k => by simp only [D] at h k; rw [h.1, k.1]
  | .nd i kd, _, _, h, k => by simp only [D] at h k; exact Option.some.inj (h.1.symm.trans k.1)
  | .agg cs, _, _, h, k => by
    simp only [D] at h k; obtain ⟨bs, rfl, h⟩ := h; obtain ⟨cs', rfl, k⟩ := k; rw [DL.det h k]
  | .tup cs, _, _, h, k => by
    simp only [D] at h k; obtain ⟨bs, rfl, h⟩ := h; obtain ⟨cs', rfl, k⟩ := k; rw [DL.det h k]
  | .ptr j off, _, _, h, k => by
    simp only [D] at h k; obtain ⟨l, o, e, rfl⟩ := h; obtain ⟨l', o', e', rfl⟩ := k; rw [e] at e'; cases e'; rfl
  | .sl j off len cap sz, _, _, h, k => by
    simp only [D] at h k; obtain ⟨l, o, e, rfl⟩ := h; obtain ⟨l', o', e', rfl⟩ := k; rw [e] at e'; cases e'; rfl
  | .fn f x y, _, _, h, k => by
    simp only [D] at h k; obtain ⟨xs, ys, rfl, h1, h2⟩ := h; obtain ⟨xs', ys', rfl, k1, k2⟩ := k; rw [DL.det h1 k1, DL.det h2 k2]
  | .ifc t v, _, _, h, k => by
    simp only [D] at h k; obtain ⟨a, rfl, h⟩ := h; obtain ⟨a', rfl, k⟩ := k; rw [D.det h k]
theorem DL.det {vs : List AV} {ls : List (Nat × Nat)} : ∀ {x : List SV} {a b : List AV}, DL vs ls x a → DL vs ls x b → a = b
  | [], _, _, h, k => by simp only [DL] at h k; rw [h, k]
  | c :: cs, _, _, h, k => by
    simp only [DL] at h k; obtain ⟨b, bs, rfl, h1, h2⟩ := h; obtain ⟨b', bs', rfl, k1, k2⟩ := k; rw [D.det h1 k1, DL.det h2 k2]
end
mutual
/-- No location is named. -/
def SV.flat : SV → Bool
  | .lit _ => true
  | .nd _ kd => !decide (kd = .any) && !decide (kd = .one)
  | .agg cs => SV.flatL cs
  | .tup cs => SV.flatL cs
  | .ptr _ _ => false
  | .sl _ _ _ _ _ => false
  | .fn _ a b => SV.flatL a && SV.flatL b
  | .ifc _ v => v.flat
def SV.flatL : List SV → Bool
  | [] => true
  | a :: as => a.flat && SV.flatL as
end
mutual
theorem D.flat {vs : List AV} {ls ls' : List (Nat × Nat)} : ∀ {x : SV} {a : AV}, x.flat = true → D vs ls x a → D vs ls' x a ∧ a.flat = true
  | .lit a, b, _, h => by
    simp only [D] at h ⊢
    refine ⟨h, ?_⟩
    obtain ⟨e, h⟩ := h
    rw [e]
    cases a <;> first | rfl | (simp [litOk] at h)
  | .nd i kd, _, hf, h => by
    simp only [D] at h ⊢
    refine ⟨h, ?_⟩
    obtain ⟨_, h⟩ := h
    cases kd <;> simp only [HasKd] at h
    · obtain ⟨n, rfl⟩ := h; rfl
    · obtain ⟨n, rfl, _⟩ := h; rfl
    · obtain ⟨n, rfl, _⟩ := h; rfl
    · obtain ⟨n, rfl⟩ := h; rfl
    · obtain ⟨n, rfl⟩ := h; rfl
    · obtain ⟨n, rfl, _⟩ := h; cases n <;> rfl
    · simp [SV.flat] at hf
    · simp [SV.flat] at hf
  | .agg cs, _, hf, h => by
    simp only [D, SV.flat] at h hf ⊢; obtain ⟨bs, rfl, h⟩ := h
    exact ⟨⟨bs, rfl, (DL.flat hf h).1⟩, by simp only [AV.flat]; exact (DL.flat (ls' := ls') hf h).2⟩
  | .tup cs, _, hf, h => by
    simp only [D, SV.flat] at h hf ⊢; obtain ⟨bs, rfl, h⟩ := h
    exact ⟨⟨bs, rfl, (DL.flat hf h).1⟩, by simp only [AV.flat]; exact (DL.flat (ls' := ls') hf h).2⟩
  | .ptr j off, _, hf, h => by simp [SV.flat] at hf
  | .sl j off len cap sz, _, hf, h => by simp [SV.flat] at hf
  | .fn f x y, _, hf, h => by
    simp only [D, SV.flat, Bool.and_eq_true] at h hf ⊢; obtain ⟨xs, ys, rfl, h1, h2⟩ := h
    exact ⟨⟨xs, ys, rfl, (DL.flat hf.1 h1).1, (DL.flat hf.2 h2).1⟩, by simp only [AV.flat, Bool.and_eq_true]; exact ⟨(DL.flat (ls' := ls') hf.1 h1).2, (DL.flat (ls' := ls') hf.2 h2).2⟩⟩
  | .ifc t v, _, hf, h => by
    simp only [D, SV.flat] at h hf ⊢; obtain ⟨a, rfl, h⟩ := h
    exact ⟨⟨a, rfl, (D.flat hf h).1⟩, by simp only [AV.flat]; exact (D.flat (ls' := ls') hf h).2⟩
theorem DL.flat {vs : List AV} {ls ls' : List (Nat × Nat)} : ∀ {x : List SV} {a : List AV}, SV.flatL x = true → DL vs ls x a → DL vs ls' x a ∧ flatL a = true
  | [], _, _, h => by simp only [DL] at h ⊢; subst h; exact ⟨rfl, rfl⟩
  | c :: cs, _, hf, h => by
    simp only [DL, SV.flatL, Bool.and_eq_true] at h hf ⊢; obtain ⟨b, bs, rfl, h1, h2⟩ := h
    exact ⟨⟨b, bs, rfl, (D.flat hf.1 h1).1, (DL.flat hf.2 h2).1⟩, by simp only [flatL, Bool.and_eq_true]; exact ⟨(D.flat (ls' := ls') hf.1 h1).2, (DL.flat (ls' := ls') hf.2 h2).2⟩⟩
end

def mmA (mx : Bool) (a b : AV) : Option AV := if mx = true then max2A a b else min2A a b

/-- What a node stands for. -/
def NodeOk (ρ : Nat → AV) (φ : Nat → List AV → AV) (vs : List AV) : Node → AV → Prop
  | .atom i, v => ρ i = v
  | .bin op x y, v => ∃ a b, D vs [] x a ∧ D vs [] y b ∧ binA op a b = some v
  | .un op x, v => ∃ a, D vs [] x a ∧ unA op a = some v
  | .conv c x, v => ∃ a, D vs [] x a ∧ convA c (fun _ => none) a = some v
  | .mm m x y, v => ∃ a b, D vs [] x a ∧ D vs [] y b ∧ mmA m a b = some v
  | .eqB x y, v => ∃ a b, D vs [] x (.bool a) ∧ D vs [] y (.bool b) ∧ v = .bool (a == b)
  | .app g xs, v => ∃ as, DL vs [] xs as ∧ φ g as = v
  | .bits x, v => ∃ c, D vs [] x (.flt .f32 c) ∧ v = bits32 c
theorem NodeOk.mono {ρ : Nat → AV} {φ : Nat → List AV → AV} {vs vs' : List AV} (hv : LeL vs vs') {n : Node} {v : AV} (h : NodeOk ρ φ vs n v) : NodeOk ρ φ vs' n v := by
  have hl : LeL ([] : List (Nat × Nat)) [] := LeL.refl _
  cases n <;> simp only [NodeOk] at h ⊢
  · exact h
  · obtain ⟨a, b, h1, h2, h3⟩ := h; exact ⟨a, b, h1.mono hv hl, h2.mono hv hl, h3⟩
  · obtain ⟨a, h1, h3⟩ := h; exact ⟨a, h1.mono hv hl, h3⟩
  · obtain ⟨a, h1, h3⟩ := h; exact ⟨a, h1.mono hv hl, h3⟩
  · obtain ⟨a, b, h1, h2, h3⟩ := h; exact ⟨a, b, h1.mono hv hl, h2.mono hv hl, h3⟩
  · obtain ⟨a, b, h1, h2, h3⟩ := h; exact ⟨a, b, h1.mono hv hl, h2.mono hv hl, h3⟩
  · obtain ⟨as, h1, h2⟩ := h; exact ⟨as, h1.mono hv hl, h2⟩
  · obtain ⟨as, h1, h2⟩ := h; exact ⟨as, h1.mono hv hl, h2⟩
theorem NodeOk.det {ρ : Nat → AV} {φ : Nat → List AV → AV} {vs : List AV} {n : Node} {v w : AV} (h : NodeOk ρ φ vs n v) (k : NodeOk ρ φ vs n w) : v = w := by
  cases n <;> simp only [NodeOk] at h k
  · rw [← h, ← k]
  · obtain ⟨a, b, h1, h2, h3⟩ := h; obtain ⟨a', b', k1, k2, k3⟩ := k
    rw [h1.det k1, h2.det k2, k3] at h3; exact (Option.some.inj h3).symm
  · obtain ⟨a, h1, h3⟩ := h; obtain ⟨a', k1, k3⟩ := k
    rw [h1.det k1, k3] at h3; exact (Option.some.inj h3).symm
  · obtain ⟨a, h1, h3⟩ := h; obtain ⟨a', k1, k3⟩ := k
    rw [h1.det k1, k3] at h3; exact (Option.some.inj h3).symm
  · obtain ⟨a, b, h1, h2, h3⟩ := h; obtain ⟨a', b', k1, k2, k3⟩ := k
    rw [h1.det k1, h2.det k2, k3] at h3; exact (Option.some.inj h3).symm
  · obtain ⟨a, b, h1, h2, rfl⟩ := h; obtain ⟨a', b', k1, k2, rfl⟩ := k
    have e1 := h1.det k1; have e2 := h2.det k2; cases e1; cases e2; rfl
  · obtain ⟨as, h1, rfl⟩ := h; obtain ⟨as', k1, rfl⟩ := k
    rw [h1.det k1]
  · obtain ⟨as, h1, rfl⟩ := h; obtain ⟨as', k1, rfl⟩ := k
    have e1 := h1.det k1; cases e1; rfl

structure St where
  ns : List (Nat × Node × Kd)
  nn : Nat
  env : List (Nat × SV)
  heap : List (Nat × List SV × Bool)
  nl : Nat
  facts : List (Nat × Bool)
  wm : Nat

def findA {α : Type} (i : Nat) : List (Nat × α) → Option α
  | [] => none
  | (j, x) :: rest => match Nat.beq i j with
    | true => some x
    | false => findA i rest
theorem findA_mem {α : Type} {i : Nat} {x : α} : ∀ {l : List (Nat × α)}, findA i l = some x → (i, x) ∈ l
  | [], h => by cases h
  | (j, y) :: rest, h => by
    unfold findA at h
    split at h
    · rename_i hb; cases h; have := Nat.eq_of_beq_eq_true hb; subst this; simp
    · exact List.mem_cons_of_mem _ (findA_mem h)
theorem findA_cons {α : Type} {i j : Nat} {x : α} {l : List (Nat × α)} : findA i ((j, x) :: l) = if i = j then some x else findA i l := by
  show (match Nat.beq i j with | true => some x | false => findA i l) = _
  by_cases h : i = j
  · subst h; simp
  · rw [if_neg h]
    have : Nat.beq i j = false := by
      cases hb : Nat.beq i j with
      | false => rfl
      | true => exact absurd (Nat.eq_of_beq_eq_true hb) h
    rw [this]

structure Okk (ρ : Nat → AV) (φ : Nat → List AV → AV) (s : St) (vs : List AV) (ls : List (Nat × Nat)) (H : AHeap) : Prop where
  nn : s.nn = vs.length
  ns : ∀ i n kd, (i, n, kd) ∈ s.ns → ∃ v, vs[i]? = some v ∧ NodeOk ρ φ vs n v ∧ HasKd kd v
  facts : ∀ i b, (i, b) ∈ s.facts → vs[i]? = some (.bool b)
  nl : s.nl = ls.length
  sep : ∀ i j l b b' cs, findA i s.heap = some (cs, true) → ls[i]? = some (l, b) → ls[j]? = some (l, b') → i = j
  lt : ∀ l b, (l, b) ∈ ls → l < H.next
  heap : ∀ j cs wr, findA j s.heap = some (cs, wr) → ∃ l b pre ds post wr', ls[j]? = some (l, b) ∧ H.get l = some (.row (pre ++ (ds ++ post)) wr') ∧ pre.length = b ∧ DL vs ls cs ds ∧ (wr = true → wr' = true ∧ pre = [] ∧ post = [])

def EnvOk (env : List (Nat × SV)) (vs : List AV) (ls : List (Nat × Nat)) (E : Env) : Prop := ∀ t v, findA t env = some v → D vs ls v (E t)
theorem EnvOk.mono {env : List (Nat × SV)} {vs vs' : List AV} {ls ls' : List (Nat × Nat)} {E : Env} (h : EnvOk env vs ls E) (hv : LeL vs vs') (hl : LeL ls ls') : EnvOk env vs' ls' E := fun t v e => (h t v e).mono hv hl
theorem EnvOk.put {env : List (Nat × SV)} {vs : List AV} {ls : List (Nat × Nat)} {E : Env} (h : EnvOk env vs ls E) {d : Nat} {v : SV} {a : AV} (hd : D vs ls v a) : EnvOk ((d, v) :: env) vs ls (E.put (some d) a) := by
  intro t w e
  rw [findA_cons] at e
  rw [Env.put_some]
  by_cases ht : t = d
  · subst ht; rw [if_pos rfl] at e ⊢; cases e; exact hd
  · rw [if_neg ht] at e; rw [if_neg (Ne.symm ht)]; exact h t w e

/-- Only nodes and facts have been added. -/
def Same (s s' : St) : Prop := s'.env = s.env ∧ s'.heap = s.heap ∧ s'.nl = s.nl ∧ s'.wm = s.wm
theorem Same.refl (s : St) : Same s s := ⟨rfl, rfl, rfl, rfl⟩
theorem Same.trans {a b c : St} (h : Same a b) (k : Same b c) : Same a c := ⟨k.1.trans h.1, k.2.1.trans h.2.1, k.2.2.1.trans h.2.2.1, k.2.2.2.trans h.2.2.2⟩

section
variable {ρ : Nat → AV} {φ : Nat → List AV → AV} {s : St} {vs : List AV} {ls : List (Nat × Nat)} {H : AHeap}

/-- A result of this value, in such a state. -/
def Got (ρ : Nat → AV) (φ : Nat → List AV → AV) (s : St) (vs : List AV) (ls : List (Nat × Nat)) (H : AHeap) (p : SV × St) (a : AV) : Prop :=
  ∃ vs', LeL vs vs' ∧ Okk ρ φ p.2 vs' ls H ∧ D vs' ls p.1 a ∧ Same s p.2

theorem Got.same (h : Okk ρ φ s vs ls H) {v : SV} {a : AV} (hd : D vs ls v a) : Got ρ φ s vs ls H (v, s) a := ⟨vs, LeL.refl _, h, hd, Same.refl _⟩

def findN (n : Node) : List (Nat × Node × Kd) → Option (Nat × Kd)
  | [] => none
  | (i, m, kd) :: rest => match n.beq m with
    | true => some (i, kd)
    | false => findN n rest
theorem findN_mem {n : Node} {i : Nat} {kd : Kd} : ∀ {l : List (Nat × Node × Kd)}, findN n l = some (i, kd) → (i, n, kd) ∈ l
  | [], h => by cases h
  | (j, m, k) :: rest, h => by
    unfold findN at h
    split at h
    · rename_i hb; cases h; rw [Node.eq_of_beq hb]; simp
    · exact List.mem_cons_of_mem _ (findN_mem h)

def mk (n : Node) (kd : Kd) (s : St) : SV × St :=
  match findN n s.ns with
  | some (i, k) => (.nd i k, s)
  | none => (.nd s.nn kd, { s with ns := (s.nn, n, kd) :: s.ns, nn := s.nn + 1 })

theorem Okk.more (h : Okk ρ φ s vs ls H) {n : Node} {kd : Kd} {a : AV} (hn : NodeOk ρ φ vs n a) (hk : HasKd kd a) : Okk ρ φ { s with ns := (s.nn, n, kd) :: s.ns, nn := s.nn + 1 } (vs ++ [a]) ls H := by
  have le : LeL vs (vs ++ [a]) := LeL.app _ _
  refine ⟨by simp [h.nn], ?_, fun i b hb => le _ _ (h.facts i b hb), h.nl, h.sep, h.lt, ?_⟩
  · intro i m k hm
    rcases List.mem_cons.1 hm with e | hm
    · cases e
      exact ⟨a, by rw [h.nn]; simp, hn.mono le, hk⟩
    · obtain ⟨v, h1, h2, h3⟩ := h.ns i m k hm
      exact ⟨v, le _ _ h1, h2.mono le, h3⟩
  · intro j cs wr hj
    obtain ⟨l, b, pre, ds, post, wr', h1, h2, h3, h4, h5⟩ := h.heap j cs wr hj
    exact ⟨l, b, pre, ds, post, wr', h1, h2, h3, h4.mono le (LeL.refl _), h5⟩

theorem mk_got (h : Okk ρ φ s vs ls H) {n : Node} {kd : Kd} {a : AV} (hn : NodeOk ρ φ vs n a) (hk : HasKd kd a) : Got ρ φ s vs ls H (mk n kd s) a := by
  unfold mk
  split
  · rename_i i k hf
    obtain ⟨v, h1, h2, h3⟩ := h.ns i n k (findN_mem hf)
    have := h2.det hn
    subst this
    exact Got.same h (by simp only [D]; exact ⟨h1, h3⟩)
  · exact ⟨vs ++ [a], LeL.app _ _, h.more hn hk, by simp only [D]; exact ⟨by rw [h.nn]; simp, hk⟩, rfl, rfl, rfl, rfl⟩
end

/-- A scalar's kind. -/
def kdOf : SV → Option Kd
  | .lit (.int k _) => some (.int k)
  | .lit (.flt k _) => some (.flt k)
  | .lit (.bool _) => some .bool
  | .lit (.str _) => some .str
  | .nd _ kd => some kd
  | _ => none
theorem kd_of {vs : List AV} {ls : List (Nat × Nat)} {x : SV} {a : AV} {kd : Kd} (hd : D vs ls x a) (hk : kdOf x = some kd) : HasKd kd a ∧ D vs [] x a := by
  cases x <;> simp only [D] at hd
  case lit b =>
    obtain ⟨rfl, ho⟩ := hd
    refine ⟨?_, by unfold D; exact ⟨rfl, ho⟩⟩
    cases a <;> simp only [kdOf, Option.some.injEq, reduceCtorEq] at hk <;> subst hk
    · exact ⟨_, rfl⟩
    · exact ⟨_, rfl⟩
    · refine ⟨_, rfl, fun c hc => ?_⟩
      subst hc
      simpa [litOk] using ho
    · exact ⟨_, rfl⟩
  case nd i k =>
    simp only [kdOf, Option.some.injEq] at hk
    subst hk
    exact ⟨hd.2, by simp only [D]; exact hd⟩
  all_goals simp [kdOf] at hk

def fltK : Kd → Option FloatKind
  | .flt k => some k
  | .f64n => some .f64
  | _ => none
theorem fltK_of {kd : Kd} {k : FloatKind} {a : AV} (h : HasKd kd a) (hk : fltK kd = some k) : ∃ x, a = .flt k x ∧ fOk k x := by
  cases kd <;> simp only [fltK, Option.some.injEq, reduceCtorEq] at hk <;> subst hk
  · exact h
  · obtain ⟨x, h1, h2, _⟩ := h; exact ⟨x, h1, h2⟩
theorem fltK_ne {kd : Kd} {k : FloatKind} (hk : fltK kd = some k) : kd ≠ .any := by rintro rfl; cases hk

end Go.Ab
